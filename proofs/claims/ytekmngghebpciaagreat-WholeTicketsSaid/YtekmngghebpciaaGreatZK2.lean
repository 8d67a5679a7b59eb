/- Proved here: LawWholeTickets, the statement of the row that this text's last part names, and all that it rests on: words on walks, contracts of the program's functions, plain lemmas. Conditions: none but those of the given row. (part 3 of 6) -/
import Derived.Test.YtekmngghebpciaaGreatZK1
section
namespace Go.Proofs.YtekmngghebpciaaGreat.PW
open Go.RowKit Go.Proofs.YtekmngghebpciaaGreatW.PrintWords Go.Proofs.YtekmngghebpciaaGreatW.PrintLast Go.Proofs.YtekmngghebpciaaGreatW.PrintMore
attribute [local go_sem] max2_int min2_int max_two min_two max_three min_three max_four min_four
set_option linter.unusedVariables false
set_option linter.unusedSimpArgs false
def fen_Total.f (k : Nat) (l0_0 : List Int) : Option (Int) := (fen_Len.f l0_0).bind fun t286 => ((fen_prefix.f k l0_0 t286).bind fun t287 => (some t287))
theorem fen_Total.mono : ∀ a0 k, LeO (fen_Total.f k a0) (fen_Total.f (k + 1) a0) := by
 intro a0 k
 unfold fen_Total.f
 repeat' first
   | (with_reducible exact fen_prefix.mono _ _ _)
   | (with_reducible exact LeO.refl _)
   | (with_reducible exact LeO.none _)
   | (with_reducible refine LeO.ite ?_ ?_)
   | (with_reducible refine LeO.bind ?_ (fun _ => ?_))
   | exact fen_prefix.mono _ _ _
   | exact LeO.none _
   | refine LeO.ite ?_ ?_
   | refine LeO.bind ?_ (fun _ => ?_)
set_option maxHeartbeats 8000000 in
set_option maxRecDepth 100000 in
theorem fen_Total.calls (k : Nat) (A0_0 : Option Addr) (c0_0 : Nat) (l0_0 : List Int) (r : Int) (w : World) (hr0_0 : Kd.C (Kd.int .u64) w A0_0 l0_0.length l0_0) (hc0_0 : l0_0.length ≤ c0_0) (h : fen_Total.f k l0_0 = some r) :
  Calls Tryz.prog 60 #[.agg #[.slice A0_0 l0_0.length c0_0]] w fun e w' => e = .returned (.int .u64 r) ∧ Below w.heap.size w w' := by
 have hu54 := Tryz.underlying54
 have HR0_0 := Aside0.mk hr0_0
 have HC0_0 := Aside0.mk hc0_0
 clear hr0_0 hc0_0
 have HB := Aside0.mk (Below.refl w.heap.size w)
 have H : ((fen_Len.f l0_0).bind fun t286 => ((fen_prefix.f k l0_0 t286).bind fun t287 => (some t287))) = some r := h
 clear h
 replace H := Option.bind_eq_some_iff.mp H
 obtain ⟨t286, A20, H⟩ := H
 try dsimp only at H
 have A2 := Aside0.mk A20
 clear A20
 replace H := Option.bind_eq_some_iff.mp H
 obtain ⟨t287, A30, H⟩ := H
 try dsimp only at H
 have A3 := Aside0.mk A30
 clear A30
 obtain rfl := Option.some.inj H
 go_enter Tryz.func60, Tryz.ntmps60
 try go_wp2_with (first | ((with_reducible refine qd 1 ?_); refine box_event ?hg (N := 1) ?hd (cs := #[.slice A0_0 l0_0.length c0_0]) (t := 54) ?hr ?_; (case hd => rfl); (case hg => rfl); (case hr => first | (go_simp; done) | (go_simp; rfl)); intro gb285 hg w4 hbox hb; have BK285 := Aside0.mk (hbox); have GW285 := Aside0.mk (qe HB hg); have GE285 := Aside0.mk (qe HB hg); replace HB := Aside0.mk (below_step (qs HB) hb); clear hb hbox hg))
 replace BK285 := Aside0.mk (blk_drew BK285.out)
 replace HB := Aside0.mk (below_drew1 HB.out)
 refine start_ (n := 5) (S := fun w' => w'.cell? ⟨gb285, 0, none⟩ = some (.slice A0_0 l0_0.length c0_0)) (ds := []) #[false, false, false, false, false] (by kernel_rfl) rfl rfl ((blk_cell BK285.out 0).trans rfl) (fun hHeld => ?_)
 generalize w4.drew = w5 at BK285 HB hHeld ⊢
 refine take_ (i := 0) (N := some 3) (v := ?_) (a' := ?_) (qt 5 1) rfl rfl (by kernel_rfl) (fun _ _ _ h => h) (Or.inl ⟨by rfl, ?_⟩) hHeld ?_ ?_
 rotate_left
 ·intro w' s0
  go_simp
  with_reducible rfl
 rotate_left
 ·simp only [Act.put, zA_, zB_, zC_, i64_w, i32_w]
  rfl
 refine take_ (i := 1) (N := some 4) (v := ?_) (a' := ?_) (qt 5 3) rfl rfl (by kernel_rfl) (fun _ _ _ h => h) (Or.inl ⟨by rfl, ?_⟩) hHeld ?_ ?_
 rotate_left
 ·intro w' s0
  go_simp
  with_reducible rfl
 rotate_left
 ·simp only [Act.put, zA_, zB_, zC_, i64_w, i32_w]
  rfl
 refine one_ (i := 2) (N := some 5) (qt 5 7) rfl rfl (by kernel_rfl) (by decide) (fun K hK => ?_)
 refine goes_ Tryz.func62 (by kernel_rfl) rfl #[.agg #[.slice A0_0 l0_0.length c0_0]] (by rfl) rfl rfl ql ?_
 with_reducible refine (fen_Len.calls _ _ l0_0 t286 _ ?side1 ?side2 A2.out).mono ?_
 (case side1 => repeat (first | exact (Kd.C_below HR0_0.out HB.out) | (with_reducible refine Kd.C_alloc ?_ _) | (with_reducible refine Kd.C_drewN ?_ _) | (with_reducible refine Kd.C_drew ?_)))
 (case side2 => exact HC0_0.out)
 rintro e w6 ⟨rfl, hb⟩
 refine ⟨_, rfl, ?_⟩
 replace BK285 := Aside0.mk (qB BK285 hb)
 replace HB := Aside0.mk (below_step (qs HB) hb)
 (try clear hb)
 (try clear hb2)
 (try clear hk)
 (try clear hi)
 refine hK.out _ _ ((blk_cell BK285.out 0).trans rfl) (fun hHeld => ?_)
 clear hK K
 refine norm_ (a' := ?_) ?_ ?_
 rotate_left
 ·show Act.put _ (some 5) _ = _
  simp only [Act.put, zA_, zB_, zC_, i64_w, i32_w]
  rfl
 refine one_ (i := 3) (N := some 6) (qt 5 15) rfl rfl (by kernel_rfl) (by decide) (fun K hK => ?_)
 refine goes_ Tryz.func86 (by kernel_rfl) rfl #[.agg #[.slice A0_0 l0_0.length c0_0], .int .i64 t286] (by rfl) rfl rfl ql ?_
 with_reducible refine (fen_prefix.calls k _ _ l0_0 t286 t287 _ ?side1 ?side2 A3.out).mono ?_
 (case side1 => repeat (first | exact (Kd.C_below HR0_0.out HB.out) | (with_reducible refine Kd.C_alloc ?_ _) | (with_reducible refine Kd.C_drewN ?_ _) | (with_reducible refine Kd.C_drew ?_)))
 (case side2 => exact HC0_0.out)
 rintro e w7 ⟨rfl, hb⟩
 refine ⟨_, rfl, ?_⟩
 replace BK285 := Aside0.mk (qB BK285 hb)
 replace HB := Aside0.mk (below_step (qs HB) hb)
 (try clear hb)
 (try clear hb2)
 (try clear hk)
 (try clear hi)
 refine hK.out _ _ ((blk_cell BK285.out 0).trans rfl) (fun hHeld => ?_)
 clear hK K
 refine norm_ (a' := ?_) ?_ ?_
 rotate_left
 ·show Act.put _ (some 6) _ = _
  simp only [Act.put, zA_, zB_, zC_, i64_w, i32_w]
  rfl
 refine qP 4 (some 2) (qt 5 31) ?_
 refine done_ (by kernel_rfl) ?_
 try go_wp2
 go_ret
 exact ⟨by first | rfl | (simp [errW_none, errW_some] <;> rfl) | (simp [*, errW_none, errW_some] <;> rfl), (qs HB)⟩
mutual
def fen_Owner.l0 : Nat → Int → Int → Int → List Int → Option (Int × Int)
 | 0, _, _, _, _ => none
 | k + 1, x1, x6, x7, x289000 => (fen_Len.f x289000).bind fun t290 => (if (wrap64 (x7 * 2)) ≤ t290 then (fen_Owner.l0 k x1 x6 (wrap64 (x7 * 2)) x289000) else (fen_Owner.l1 k x1 x6 x7 x289000))
def fen_Owner.l1 : Nat → Int → Int → Int → List Int → Option (Int × Int)
 | 0, _, _, _, _ => none
 | k + 1, x1, x6, x7, x289000 => if x7 > 0 then ((fen_Len.f x289000).bind fun t291 => (if (wrap64 (x6 + x7)) ≤ t291 then (if 0 ≤ (wrap64 ((wrap64 (x6 + x7)) - 1)) then (if (wrap64 ((wrap64 (x6 + x7)) - 1)) < (x289000.length : Int) then (if (rd x289000 (wrap64 ((wrap64 (x6 + x7)) - 1))) ≤ x1 then (fen_Owner.l1 k (IntKind.u64.wrap (x1 - (rd x289000 (wrap64 ((wrap64 (x6 + x7)) - 1))))) (wrap64 (x6 + x7)) (x7 / 2) x289000) else (fen_Owner.l1 k x1 x6 (x7 / 2) x289000)) else (none)) else (none)) else (fen_Owner.l1 k x1 x6 (x7 / 2) x289000))) else (some (x6, 0))
end
def fen_Owner.f (k : Nat) (l0_0 : List Int) (a1 : Int) : Option (Int × Int) := (fen_Total.f k l0_0).bind fun t289 => (if a1 ≥ t289 then (some (0, 3)) else (fen_Owner.l0 k a1 0 1 l0_0))
theorem fen_Owner.mono_l : ∀ k, (∀ y0 y1 y2 y3, LeO (fen_Owner.l0 k y0 y1 y2 y3) (fen_Owner.l0 (k + 1) y0 y1 y2 y3)) ∧ (∀ y0 y1 y2 y3, LeO (fen_Owner.l1 k y0 y1 y2 y3) (fen_Owner.l1 (k + 1) y0 y1 y2 y3))
 | 0 => ⟨fun _ _ _ _ r h => by simp [fen_Owner.l0] at h, fun _ _ _ _ r h => by simp [fen_Owner.l1] at h⟩
 | k + 1 => by
  obtain ⟨ih0, ih1⟩ := fen_Owner.mono_l k
  refine ⟨?_, ?_⟩
  ·intro y0 y1 y2 y3
   unfold fen_Owner.l0
   repeat' first
   | (with_reducible exact ih0 _ _ _ _)
   | (with_reducible exact ih1 _ _ _ _)
   | (with_reducible exact fen_Total.mono _ _)
   | (with_reducible exact LeO.refl _)
   | (with_reducible exact LeO.none _)
   | (with_reducible refine LeO.ite ?_ ?_)
   | (with_reducible refine LeO.bind ?_ (fun _ => ?_))
   | exact ih0 _ _ _ _
   | exact ih1 _ _ _ _
   | exact fen_Total.mono _ _
   | exact LeO.none _
   | refine LeO.ite ?_ ?_
   | refine LeO.bind ?_ (fun _ => ?_)
  ·intro y0 y1 y2 y3
   unfold fen_Owner.l1
   repeat' first
   | (with_reducible exact ih0 _ _ _ _)
   | (with_reducible exact ih1 _ _ _ _)
   | (with_reducible exact fen_Total.mono _ _)
   | (with_reducible exact LeO.refl _)
   | (with_reducible exact LeO.none _)
   | (with_reducible refine LeO.ite ?_ ?_)
   | (with_reducible refine LeO.bind ?_ (fun _ => ?_))
   | exact ih0 _ _ _ _
   | exact ih1 _ _ _ _
   | exact fen_Total.mono _ _
   | exact LeO.none _
   | refine LeO.ite ?_ ?_
   | refine LeO.bind ?_ (fun _ => ?_)
theorem fen_Owner.mono : ∀ a0 a1 k, LeO (fen_Owner.f k a0 a1) (fen_Owner.f (k + 1) a0 a1) := by
 intro a0 a1 k
 obtain ⟨ih0, ih1⟩ := fen_Owner.mono_l k
 unfold fen_Owner.f
 repeat' first
   | (with_reducible exact ih0 _ _ _ _)
   | (with_reducible exact ih1 _ _ _ _)
   | (with_reducible exact fen_Total.mono _ _)
   | (with_reducible exact LeO.refl _)
   | (with_reducible exact LeO.none _)
   | (with_reducible refine LeO.ite ?_ ?_)
   | (with_reducible refine LeO.bind ?_ (fun _ => ?_))
   | exact ih0 _ _ _ _
   | exact ih1 _ _ _ _
   | exact fen_Total.mono _ _
   | exact LeO.none _
   | refine LeO.ite ?_ ?_
   | refine LeO.bind ?_ (fun _ => ?_)
set_option maxHeartbeats 8000000 in
set_option maxRecDepth 100000 in
theorem fen_Owner.calls (k : Nat) (A0_0 : Option Addr) (c0_0 : Nat) (l0_0 : List Int) (a1 : Int) (r1 : Int) (r2 : Int) (w : World) (hr0_0 : Kd.C (Kd.int .u64) w A0_0 l0_0.length l0_0) (hc0_0 : l0_0.length ≤ c0_0) (h : fen_Owner.f k l0_0 a1 = some (r1, r2)) :
  Calls Tryz.prog 25 #[.agg #[.slice A0_0 l0_0.length c0_0], .int .u64 a1] w fun e w' => e = .returned (.tuple #[.int .i64 r1, .int .i64 r2]) ∧ Below w.heap.size w w' := by
 have hu54 := Tryz.underlying54
 have HR0_0 := Aside0.mk hr0_0
 have HC0_0 := Aside0.mk hc0_0
 clear hr0_0 hc0_0
 have HB := Aside0.mk (Below.refl w.heap.size w)
 have H : ((fen_Total.f k l0_0).bind fun t289 => (if a1 ≥ t289 then (some (0, 3)) else (fen_Owner.l0 k a1 0 1 l0_0))) = some (r1, r2) := h
 clear h
 replace H := Option.bind_eq_some_iff.mp H
 obtain ⟨t289, A30, H⟩ := H
 try dsimp only at H
 have A3 := Aside0.mk A30
 clear A30
 by_cases c4 : a1 ≥ t289
 ·rw [if_pos c4] at H
  have c4b0 : decide (t289 ≤ a1) = true := decide_eq_true c4
  clear c4
  simp only [Option.some.injEq, Prod.mk.injEq] at H
  obtain ⟨rfl, rfl⟩ := H
  go_enter Tryz.func25, Tryz.ntmps25
  go_wp2_with (first | ((with_reducible refine qd 2 ?_); refine box_event ?hg (N := 2) ?hd (cs := #[.slice A0_0 l0_0.length c0_0]) (t := 54) ?hr ?_; (case hd => rfl); (case hg => rfl); (case hr => first | (go_simp; done) | (go_simp; rfl)); intro gb288 hg w5 hbox hb; have BK288 := Aside0.mk (hbox); have GW288 := Aside0.mk (qe HB hg); have GE288 := Aside0.mk (qe HB hg); replace HB := Aside0.mk (below_step (qs HB) hb); clear hb hbox hg; have hcz6_0 : w5.cell? ⟨gb288, 0, none⟩ = some (.slice A0_0 l0_0.length c0_0) := (blk_cell BK288.out 0).trans rfl; have hfz6_0 := blk_frozen BK288.out 0) | ((with_reducible refine gate_callee (f := 60) rfl ?_); refine goesL_ (some 11) rfl rfl Tryz.func60 (by kernel_rfl) rfl #[.agg #[.slice A0_0 l0_0.length c0_0]] rfl ql ?_; (with_reducible refine (fen_Total.calls k _ _ l0_0 t289 _ ?side1 ?side2 A3.out).mono ?_); (case side1 => repeat (first | exact (Kd.C_below HR0_0.out HB.out) | (with_reducible refine Kd.C_alloc ?_ _) | (with_reducible refine Kd.C_drewN ?_ _) | (with_reducible refine Kd.C_drew ?_))); (case side2 => exact HC0_0.out); rintro e w7 ⟨rfl, hb⟩; refine ⟨_, rfl, ?_⟩; replace BK288 := Aside0.mk (qB BK288 hb); replace HB := Aside0.mk (below_step (qs HB) hb); (try clear hb); (try clear hb2); (try clear hk); (try clear hi)))
  go_ret2
  exact ⟨by first | rfl | (simp [errW_none, errW_some] <;> rfl) | (simp [*, errW_none, errW_some] <;> rfl), (qs HB)⟩
 ·rw [if_neg c4] at H
  have c4b0 : decide (t289 ≤ a1) = false := decide_eq_false c4
  clear c4
  have H' := Aside0.mk H
  clear H
  go_enter Tryz.func25, Tryz.ntmps25
  go_wp2_with (first | ((with_reducible refine qd 2 ?_); refine box_event ?hg (N := 2) ?hd (cs := #[.slice A0_0 l0_0.length c0_0]) (t := 54) ?hr ?_; (case hd => rfl); (case hg => rfl); (case hr => first | (go_simp; done) | (go_simp; rfl)); intro gb288 hg w8 hbox hb; have BK288 := Aside0.mk (hbox); have GW288 := Aside0.mk (qe HB hg); have GE288 := Aside0.mk (qe HB hg); replace HB := Aside0.mk (below_step (qs HB) hb); clear hb hbox hg; have hcz9_0 : w8.cell? ⟨gb288, 0, none⟩ = some (.slice A0_0 l0_0.length c0_0) := (blk_cell BK288.out 0).trans rfl; have hfz9_0 := blk_frozen BK288.out 0) | ((with_reducible refine gate_callee (f := 60) rfl ?_); refine goesL_ (some 11) rfl rfl Tryz.func60 (by kernel_rfl) rfl #[.agg #[.slice A0_0 l0_0.length c0_0]] rfl ql ?_; (with_reducible refine (fen_Total.calls k _ _ l0_0 t289 _ ?side1 ?side2 A3.out).mono ?_); (case side1 => repeat (first | exact (Kd.C_below HR0_0.out HB.out) | (with_reducible refine Kd.C_alloc ?_ _) | (with_reducible refine Kd.C_drewN ?_ _) | (with_reducible refine Kd.C_drew ?_))); (case side2 => exact HC0_0.out); rintro e w10 ⟨rfl, hb⟩; refine ⟨_, rfl, ?_⟩; replace BK288 := Aside0.mk (qB BK288 hb); replace HB := Aside0.mk (below_step (qs HB) hb); (try clear hb); (try clear hb2); (try clear hk); (try clear hi)))
  go_loopg [7] k (fun kq v7 w' => ∃ (x7_1 : Int), v7 = .int .i64 x7_1 ∧ Aside0 (fen_Owner.l0 kq a1 0 x7_1 l0_0 = some (r1, r2)) ∧ Aside0 (kq ≤ k) ∧ Aside0 (w'.heap[gb288]? = some (.cells #[(.slice A0_0 l0_0.length c0_0)] 54 (0, 0))) ∧ Aside0 (Below w.heap.size w w'))
  case atStart => exact ⟨(1), (by first | rfl | (simp; done) | (simp [*]; done)), H', ⟨Nat.le_refl _⟩, ⟨(qb BK288)⟩, ⟨(qs HB)⟩⟩
  case round =>
   clear H'
   try clear c2
   try clear p2
   try clear c4
   try clear c4b0
   try clear c6
   try clear hcz6_0
   try clear hcz9_0
   try clear hfz6_0
   try clear hfz9_0
   obtain ⟨x7_1, rfl, HA, HK1, BK288, HB⟩ := hrel
   cases gk with
   | zero => exact absurd HA.out (by simp [fen_Owner.l0])
   | succ k1 =>
    have H := HA.out
    clear HA
    simp only [fen_Owner.l0] at H
    replace H := Option.bind_eq_some_iff.mp H
    obtain ⟨t290, A110, H⟩ := H
    try dsimp only at H
    have A11 := Aside0.mk A110
    clear A110
    by_cases c12 : (wrap64 (x7_1 * 2)) ≤ t290
    ·rw [if_pos c12] at H
     have c12b0 : decide ((wrap64 (x7_1 * 2)) ≤ t290) = true := decide_eq_true c12
     clear c12
     have H' := Aside0.mk H
     clear H
     have hcz13_0 : wr.cell? ⟨gb288, 0, none⟩ = some (.slice A0_0 l0_0.length c0_0) := (blk_cell BK288.out 0).trans rfl
     have hfz13_0 := blk_frozen BK288.out 0
     go_wp2_with (first | ((with_reducible refine gate_callee (f := 62) rfl ?_); refine goesL_ (some 16) rfl rfl Tryz.func62 (by kernel_rfl) rfl #[.agg #[.slice A0_0 l0_0.length c0_0]] rfl ql ?_; (with_reducible refine (fen_Len.calls _ _ l0_0 t290 _ ?side1 ?side2 A11.out).mono ?_); (case side1 => repeat (first | exact (Kd.C_below HR0_0.out HB.out) | (with_reducible refine Kd.C_alloc ?_ _) | (with_reducible refine Kd.C_drewN ?_ _) | (with_reducible refine Kd.C_drew ?_))); (case side2 => exact HC0_0.out); rintro e w14 ⟨rfl, hb⟩; refine ⟨_, rfl, ?_⟩; replace BK288 := Aside0.mk (qB BK288 hb); replace HB := Aside0.mk (below_step (qs HB) hb); (try clear hb); (try clear hb2); (try clear hk); (try clear hi)))
     go_roundg k1
     case measure => have := HK1.out; omega
     case rel => exact ⟨(wrap64 (x7_1 * 2)), (by first | rfl | (simp; done) | (simp [*]; done)), H', ⟨by have := HK1.out; omega⟩, ⟨(qb BK288)⟩, ⟨(qs HB)⟩⟩
    ·rw [if_neg c12] at H
     have c12b0 : decide ((wrap64 (x7_1 * 2)) ≤ t290) = false := decide_eq_false c12
     clear c12
     have H' := Aside0.mk H
     clear H
     have hcz15_0 : wr.cell? ⟨gb288, 0, none⟩ = some (.slice A0_0 l0_0.length c0_0) := (blk_cell BK288.out 0).trans rfl
     have hfz15_0 := blk_frozen BK288.out 0
     go_wp2_with (first | ((with_reducible refine gate_callee (f := 62) rfl ?_); refine goesL_ (some 16) rfl rfl Tryz.func62 (by kernel_rfl) rfl #[.agg #[.slice A0_0 l0_0.length c0_0]] rfl ql ?_; (with_reducible refine (fen_Len.calls _ _ l0_0 t290 _ ?side1 ?side2 A11.out).mono ?_); (case side1 => repeat (first | exact (Kd.C_below HR0_0.out HB.out) | (with_reducible refine Kd.C_alloc ?_ _) | (with_reducible refine Kd.C_drewN ?_ _) | (with_reducible refine Kd.C_drew ?_))); (case side2 => exact HC0_0.out); rintro e w16 ⟨rfl, hb⟩; refine ⟨_, rfl, ?_⟩; replace BK288 := Aside0.mk (qB BK288 hb); replace HB := Aside0.mk (below_step (qs HB) hb); (try clear hb); (try clear hb2); (try clear hk); (try clear hi)))
     go_loopg [1, 6, 7] k1 (fun kq v1 v6 v7 w' => ∃ (x1_2 : Int) (x6_2 : Int) (x7_2 : Int), v1 = .int .u64 x1_2 ∧ v6 = .int .i64 x6_2 ∧ v7 = .int .i64 x7_2 ∧ Aside0 (fen_Owner.l1 kq x1_2 x6_2 x7_2 l0_0 = some (r1, r2)) ∧ Aside0 (kq ≤ k1) ∧ Aside0 (w'.heap[gb288]? = some (.cells #[(.slice A0_0 l0_0.length c0_0)] 54 (0, 0))) ∧ Aside0 (Below w.heap.size w w'))
     case atStart => exact ⟨(a1), (0), (x7_1), (by first | rfl | (simp; done) | (simp [*]; done)), (by first | rfl | (simp; done) | (simp [*]; done)), (by first | rfl | (simp; done) | (simp [*]; done)), H', ⟨Nat.le_refl _⟩, ⟨(qb BK288)⟩, ⟨(qs HB)⟩⟩
     case round =>
      clear H'
      try clear c1
      try clear c2
      try clear p2
      try clear c4
      try clear c4b0
      try clear c6
      try clear p6
      try clear c12
      try clear c12b0
      try clear hcz13_0
      try clear hcz15_0
      try clear hcz6_0
      try clear hcz9_0
      try clear hfz13_0
      try clear hfz15_0
      try clear hfz6_0
      try clear hfz9_0
      try clear p2
      obtain ⟨x1_2, x6_2, x7_2, rfl, rfl, rfl, HA, HK2, BK288, HB⟩ := hrel
      cases gk with
      | zero => exact absurd HA.out (by simp [fen_Owner.l1])
      | succ k2 =>
       have H := HA.out
       clear HA
       simp only [fen_Owner.l1] at H
       by_cases c17 : x7_2 > 0
       ·rw [if_pos c17] at H
        have c17b0 : decide (0 < x7_2) = true := decide_eq_true c17
        clear c17
        replace H := Option.bind_eq_some_iff.mp H
        obtain ⟨t291, A180, H⟩ := H
        try dsimp only at H
        have A18 := Aside0.mk A180
        clear A180
        by_cases c19 : (wrap64 (x6_2 + x7_2)) ≤ t291
        ·rw [if_pos c19] at H
         have c19b0 : decide ((wrap64 (x6_2 + x7_2)) ≤ t291) = true := decide_eq_true c19
         clear c19
         obtain ⟨ji20, hji20⟩ : ∃ j_ : Int, (wrap64 ((wrap64 (x6_2 + x7_2)) - 1)) = j_ := ⟨_, rfl⟩
         replace H : (if 0 ≤ (ji20) then (if (ji20) < (l0_0.length : Int) then (if (rd l0_0 (ji20)) ≤ x1_2 then (fen_Owner.l1 k2 (IntKind.u64.wrap (x1_2 - (rd l0_0 (ji20)))) (wrap64 (x6_2 + x7_2)) (x7_2 / 2) l0_0) else (fen_Owner.l1 k2 x1_2 x6_2 (x7_2 / 2) l0_0)) else (none)) else (none)) = some (r1, r2) := by first | (rw [hji20] at H; exact H) | (simp only [hji20] at H ⊢; exact H)
         (try rw [hji20] at A18)
         have hji20w : (IntKind.i64.wrap ((wrap64 (x6_2 + x7_2)) - 1)) = ji20 := (i64_w _).trans hji20
         by_cases c21 : 0 ≤ (ji20)
         ·rw [if_pos c21] at H
          have c21b0 : decide (0 ≤ (ji20)) = true := decide_eq_true c21
          clear c21
          by_cases c22 : (ji20) < (l0_0.length : Int)
          ·rw [if_pos c22] at H
           have c22b0 : decide ((ji20) < (l0_0.length : Int)) = true := decide_eq_true c22
           clear c22
           by_cases c23 : (rd l0_0 (ji20)) ≤ x1_2
           ·rw [if_pos c23] at H
            have c23b0 : decide ((rd l0_0 (ji20)) ≤ x1_2) = true := decide_eq_true c23
            clear c23
            have H' := Aside0.mk H
            clear H
            have hcz24_0 : wr.cell? ⟨gb288, 0, none⟩ = some (.slice A0_0 l0_0.length c0_0) := (blk_cell BK288.out 0).trans rfl
            have hfz24_0 := blk_frozen BK288.out 0
            go_wp2_with (first | ((with_reducible refine gate_callee (f := 62) rfl ?_); refine goesL_ (some 29) rfl rfl Tryz.func62 (by kernel_rfl) rfl #[.agg #[.slice A0_0 l0_0.length c0_0]] rfl ql ?_; (with_reducible refine (fen_Len.calls _ _ l0_0 t291 _ ?side1 ?side2 A18.out).mono ?_); (case side1 => repeat (first | exact (Kd.C_below HR0_0.out HB.out) | (with_reducible refine Kd.C_alloc ?_ _) | (with_reducible refine Kd.C_drewN ?_ _) | (with_reducible refine Kd.C_drew ?_))); (case side2 => exact HC0_0.out); rintro e w25 ⟨rfl, hb⟩; refine ⟨_, rfl, ?_⟩; replace BK288 := Aside0.mk (qB BK288 hb); replace HB := Aside0.mk (below_step (qs HB) hb); (try clear hb); (try clear hb2); (try clear hk); (try clear hi); have hcz26_0 : w25.cell? ⟨gb288, 0, none⟩ = some (.slice A0_0 l0_0.length c0_0) := (blk_cell BK288.out 0).trans rfl; have hfz26_0 := blk_frozen BK288.out 0; have p292 : 0 ≤ ((ji20) : Int) := of_decide_eq_true qa; have q292 : (ji20) < (l0_0.length : Int) := of_decide_eq_true qa; obtain ⟨ad292, e292, hx292_0⟩ := Kd.at_int HR0_0.out (ji20) p292 q292; cases e292; replace hx292_0 := (HB.out.cell (World.block_lt_of_cell? w _ hx292_0)).trans hx292_0; replace p292 := eq_true p292; replace q292 := eq_true q292; have p293 : 0 ≤ ((ji20) : Int) := of_decide_eq_true qa; have q293 : (ji20) < (l0_0.length : Int) := of_decide_eq_true qa; obtain ⟨ad293, e293, hx293_0⟩ := Kd.at_int HR0_0.out (ji20) p293 q293; obtain rfl : ad292 = ad293 := (by injection e293); replace hx293_0 := (HB.out.cell (World.block_lt_of_cell? w _ hx293_0)).trans hx293_0; replace p293 := eq_true p293; replace q293 := eq_true q293))
            go_roundg k2
            case measure => have := HK1.out; have := HK2.out; omega
            case rel => exact ⟨(IntKind.u64.wrap (x1_2 - (rd l0_0 (ji20)))), (wrap64 (x6_2 + x7_2)), (x7_2 / 2), (by first | rfl | (simp; done) | (simp only [← hji20] <;> (first | rfl | simp)) | (simp [*]; done)), (by first | rfl | (simp; done) | (simp [*]; done)), (by first | rfl | (simp; done) | (simp [*]; done)), H', ⟨by have := HK1.out; have := HK2.out; omega⟩, ⟨(qb BK288)⟩, ⟨(qs HB)⟩⟩
           ·rw [if_neg c23] at H
            have c23b0 : decide ((rd l0_0 (ji20)) ≤ x1_2) = false := decide_eq_false c23
            clear c23
            have H' := Aside0.mk H
            clear H
            have hcz27_0 : wr.cell? ⟨gb288, 0, none⟩ = some (.slice A0_0 l0_0.length c0_0) := (blk_cell BK288.out 0).trans rfl
            have hfz27_0 := blk_frozen BK288.out 0
            go_wp2_with (first | ((with_reducible refine gate_callee (f := 62) rfl ?_); refine goesL_ (some 29) rfl rfl Tryz.func62 (by kernel_rfl) rfl #[.agg #[.slice A0_0 l0_0.length c0_0]] rfl ql ?_; (with_reducible refine (fen_Len.calls _ _ l0_0 t291 _ ?side1 ?side2 A18.out).mono ?_); (case side1 => repeat (first | exact (Kd.C_below HR0_0.out HB.out) | (with_reducible refine Kd.C_alloc ?_ _) | (with_reducible refine Kd.C_drewN ?_ _) | (with_reducible refine Kd.C_drew ?_))); (case side2 => exact HC0_0.out); rintro e w28 ⟨rfl, hb⟩; refine ⟨_, rfl, ?_⟩; replace BK288 := Aside0.mk (qB BK288 hb); replace HB := Aside0.mk (below_step (qs HB) hb); (try clear hb); (try clear hb2); (try clear hk); (try clear hi); have hcz29_0 : w28.cell? ⟨gb288, 0, none⟩ = some (.slice A0_0 l0_0.length c0_0) := (blk_cell BK288.out 0).trans rfl; have hfz29_0 := blk_frozen BK288.out 0; have p292 : 0 ≤ ((ji20) : Int) := of_decide_eq_true qa; have q292 : (ji20) < (l0_0.length : Int) := of_decide_eq_true qa; obtain ⟨ad292, e292, hx292_0⟩ := Kd.at_int HR0_0.out (ji20) p292 q292; cases e292; replace hx292_0 := (HB.out.cell (World.block_lt_of_cell? w _ hx292_0)).trans hx292_0; replace p292 := eq_true p292; replace q292 := eq_true q292))
            go_roundg k2
            case measure => have := HK1.out; have := HK2.out; omega
            case rel => exact ⟨(x1_2), (x6_2), (x7_2 / 2), (by first | rfl | (simp; done) | (simp [*]; done)), (by first | rfl | (simp; done) | (simp [*]; done)), (by first | rfl | (simp; done) | (simp [*]; done)), H', ⟨by have := HK1.out; have := HK2.out; omega⟩, ⟨(qb BK288)⟩, ⟨(qs HB)⟩⟩
          ·rw [if_neg c22] at H
           exact absurd H (by simp)
         ·rw [if_neg c21] at H
          exact absurd H (by simp)
        ·rw [if_neg c19] at H
         have c19b0 : decide ((wrap64 (x6_2 + x7_2)) ≤ t291) = false := decide_eq_false c19
         clear c19
         have H' := Aside0.mk H
         clear H
         have hcz30_0 : wr.cell? ⟨gb288, 0, none⟩ = some (.slice A0_0 l0_0.length c0_0) := (blk_cell BK288.out 0).trans rfl
         have hfz30_0 := blk_frozen BK288.out 0
         go_wp2_with (first | ((with_reducible refine gate_callee (f := 62) rfl ?_); refine goesL_ (some 29) rfl rfl Tryz.func62 (by kernel_rfl) rfl #[.agg #[.slice A0_0 l0_0.length c0_0]] rfl ql ?_; (with_reducible refine (fen_Len.calls _ _ l0_0 t291 _ ?side1 ?side2 A18.out).mono ?_); (case side1 => repeat (first | exact (Kd.C_below HR0_0.out HB.out) | (with_reducible refine Kd.C_alloc ?_ _) | (with_reducible refine Kd.C_drewN ?_ _) | (with_reducible refine Kd.C_drew ?_))); (case side2 => exact HC0_0.out); rintro e w31 ⟨rfl, hb⟩; refine ⟨_, rfl, ?_⟩; replace BK288 := Aside0.mk (qB BK288 hb); replace HB := Aside0.mk (below_step (qs HB) hb); (try clear hb); (try clear hb2); (try clear hk); (try clear hi)))
         go_roundg k2
         case measure => have := HK1.out; have := HK2.out; omega
         case rel => exact ⟨(x1_2), (x6_2), (x7_2 / 2), (by first | rfl | (simp; done) | (simp [*]; done)), (by first | rfl | (simp; done) | (simp [*]; done)), (by first | rfl | (simp; done) | (simp [*]; done)), H', ⟨by have := HK1.out; have := HK2.out; omega⟩, ⟨(qb BK288)⟩, ⟨(qs HB)⟩⟩
       ·rw [if_neg c17] at H
        have c17b0 : decide (0 < x7_2) = false := decide_eq_false c17
        clear c17
        simp only [Option.some.injEq, Prod.mk.injEq] at H
        obtain ⟨rfl, rfl⟩ := H
        go_wp2
        go_ret2
        exact ⟨by first | rfl | (simp [errW_none, errW_some] <;> rfl) | (simp [*, errW_none, errW_some] <;> rfl), (qs HB)⟩
def tape_length.f (a0_0 : Int) (l0_1 : List Int) (a0_2 : Int) (a0_3 : List Int) (a0_4 : Int) (a0_5 : Int) : Option (Int × Bool) := if a0_0 = 1 then (some (a0_2, decide (a0_2 ≤ (IntKind.u64.wrap ((IntKind.u64.wrap ((l0_1.length : Int))) * 8))))) else (if a0_0 = 2 then (some (4611686018427387904, true)) else (some (0, false)))
set_option maxHeartbeats 8000000 in
set_option maxRecDepth 100000 in
theorem tape_length.calls (a0_0 : Int) (A0_1 : Option Addr) (c0_1 : Nat) (l0_1 : List Int) (a0_2 : Int) (a0_3 : List Int) (a0_4 : Int) (a0_5 : Int) (r1 : Int) (r2 : Bool) (w : World) (hr0_1 : Kd.C (Kd.int .u8) w A0_1 l0_1.length l0_1) (hc0_1 : l0_1.length ≤ c0_1) (h : tape_length.f a0_0 l0_1 a0_2 a0_3 a0_4 a0_5 = some (r1, r2)) :
  Calls Tryz.prog 94 #[.agg (#[.int .i64 a0_0, .slice A0_1 l0_1.length c0_1, .int .u64 a0_2] ++ (Ar.cells .u8 32 a0_3 ++ #[.int .u64 a0_4, .int .u64 a0_5]))] w fun e w' => e = .returned (.tuple #[.int .u64 r1, .bool r2]) ∧ Below w.heap.size w w' := by
 have hu39 := Tryz.underlying39
 have HR0_1 := Aside0.mk hr0_1
 have HC0_1 := Aside0.mk hc0_1
 clear hr0_1 hc0_1
 have HB := Aside0.mk (Below.refl w.heap.size w)
 have H : (if a0_0 = 1 then (some (a0_2, decide (a0_2 ≤ (IntKind.u64.wrap ((IntKind.u64.wrap ((l0_1.length : Int))) * 8))))) else (if a0_0 = 2 then (some (4611686018427387904, true)) else (some (0, false)))) = some (r1, r2) := h
 clear h
 by_cases c2 : a0_0 = 1
 ·rw [if_pos c2] at H
  have c2b0 : (a0_0 == 1) = true := beq_iff_eq.mpr c2
  have c2b1 : (a0_0 != 1) = false := bne_eq_false_iff_eq.mpr c2
  clear c2
  simp only [Option.some.injEq, Prod.mk.injEq] at H
  obtain ⟨rfl, rfl⟩ := H
  go_enter Tryz.func94, Tryz.ntmps94
  go_wp2_with (first | ((with_reducible refine qd 1 ?_); (try (refine gate_guard (by rfl) ?_; dsimp only)); refine qF (N := 1) (cs := (#[.int .i64 a0_0, .slice A0_1 l0_1.length c0_1, .int .u64 a0_2] ++ ((Ar.cells .u8 32 a0_3) ++ #[.int .u64 a0_4, .int .u64 a0_5]))) (t := 39) ?_; intro gb294 hg w3 hbox hb; have BK294 := Aside0.mk (hbox); have GW294 := Aside0.mk (qe HB hg); have GE294 := Aside0.mk (qe HB hg); replace HB := Aside0.mk (below_step (qs HB) hb); clear hb hbox hg; have hcz4_0 : w3.cell? ⟨gb294, 0, none⟩ = some (.int .i64 a0_0) := (blk_cell BK294.out 0).trans qc; have hcz4_1 : w3.cell? ⟨gb294, 1, none⟩ = some (.slice A0_1 l0_1.length c0_1) := (blk_cell BK294.out 1).trans qc; have hcz4_2 : w3.cell? ⟨gb294, 2, none⟩ = some (.int .u64 a0_2) := (blk_cell BK294.out 2).trans qc; have hcz4_4 : w3.cell? ⟨gb294, 35, none⟩ = some (.int .u64 a0_4) := (blk_cell BK294.out 35).trans qc; have hcz4_5 : w3.cell? ⟨gb294, 36, none⟩ = some (.int .u64 a0_5) := (blk_cell BK294.out 36).trans qc))
  repeat (go_quiet (first | ((with_reducible refine qd 1 ?_); (try (refine gate_guard (by rfl) ?_; dsimp only)); refine qF (N := 1) (cs := (#[.int .i64 a0_0, .slice A0_1 l0_1.length c0_1, .int .u64 a0_2] ++ ((Ar.cells .u8 32 a0_3) ++ #[.int .u64 a0_4, .int .u64 a0_5]))) (t := 39) ?_; intro gb294 hg w3 hbox hb; have BK294 := Aside0.mk (hbox); have GW294 := Aside0.mk (qe HB hg); have GE294 := Aside0.mk (qe HB hg); replace HB := Aside0.mk (below_step (qs HB) hb); clear hb hbox hg; have hcz4_0 : w3.cell? ⟨gb294, 0, none⟩ = some (.int .i64 a0_0) := (blk_cell BK294.out 0).trans qc; have hcz4_1 : w3.cell? ⟨gb294, 1, none⟩ = some (.slice A0_1 l0_1.length c0_1) := (blk_cell BK294.out 1).trans qc; have hcz4_2 : w3.cell? ⟨gb294, 2, none⟩ = some (.int .u64 a0_2) := (blk_cell BK294.out 2).trans qc; have hcz4_4 : w3.cell? ⟨gb294, 35, none⟩ = some (.int .u64 a0_4) := (blk_cell BK294.out 35).trans qc; have hcz4_5 : w3.cell? ⟨gb294, 36, none⟩ = some (.int .u64 a0_5) := (blk_cell BK294.out 36).trans qc)); try go_wp2_with (first | ((with_reducible refine qd 1 ?_); (try (refine gate_guard (by rfl) ?_; dsimp only)); refine qF (N := 1) (cs := (#[.int .i64 a0_0, .slice A0_1 l0_1.length c0_1, .int .u64 a0_2] ++ ((Ar.cells .u8 32 a0_3) ++ #[.int .u64 a0_4, .int .u64 a0_5]))) (t := 39) ?_; intro gb294 hg w3 hbox hb; have BK294 := Aside0.mk (hbox); have GW294 := Aside0.mk (qe HB hg); have GE294 := Aside0.mk (qe HB hg); replace HB := Aside0.mk (below_step (qs HB) hb); clear hb hbox hg; have hcz4_0 : w3.cell? ⟨gb294, 0, none⟩ = some (.int .i64 a0_0) := (blk_cell BK294.out 0).trans qc; have hcz4_1 : w3.cell? ⟨gb294, 1, none⟩ = some (.slice A0_1 l0_1.length c0_1) := (blk_cell BK294.out 1).trans qc; have hcz4_2 : w3.cell? ⟨gb294, 2, none⟩ = some (.int .u64 a0_2) := (blk_cell BK294.out 2).trans qc; have hcz4_4 : w3.cell? ⟨gb294, 35, none⟩ = some (.int .u64 a0_4) := (blk_cell BK294.out 35).trans qc; have hcz4_5 : w3.cell? ⟨gb294, 36, none⟩ = some (.int .u64 a0_5) := (blk_cell BK294.out 36).trans qc)))
  go_ret2
  exact ⟨by first | rfl | (simp [errW_none, errW_some] <;> rfl) | (simp [*, errW_none, errW_some] <;> rfl), (qs HB)⟩
 ·rw [if_neg c2] at H
  have c2b0 : (a0_0 == 1) = false := beq_eq_false_iff_ne.mpr c2
  have c2b1 : (a0_0 != 1) = true := bne_iff_ne.mpr c2
  by_cases c5 : a0_0 = 2
  ·rw [if_pos c5] at H
   have c5b0 : (a0_0 == 2) = true := beq_iff_eq.mpr c5
   have c5b1 : (a0_0 != 2) = false := bne_eq_false_iff_eq.mpr c5
   clear c5
   simp only [Option.some.injEq, Prod.mk.injEq] at H
   obtain ⟨rfl, rfl⟩ := H
   go_enter Tryz.func94, Tryz.ntmps94
   go_wp2_with (first | ((with_reducible refine qd 1 ?_); (try (refine gate_guard (by rfl) ?_; dsimp only)); refine qF (N := 1) (cs := (#[.int .i64 a0_0, .slice A0_1 l0_1.length c0_1, .int .u64 a0_2] ++ ((Ar.cells .u8 32 a0_3) ++ #[.int .u64 a0_4, .int .u64 a0_5]))) (t := 39) ?_; intro gb294 hg w6 hbox hb; have BK294 := Aside0.mk (hbox); have GW294 := Aside0.mk (qe HB hg); have GE294 := Aside0.mk (qe HB hg); replace HB := Aside0.mk (below_step (qs HB) hb); clear hb hbox hg; have hcz7_0 : w6.cell? ⟨gb294, 0, none⟩ = some (.int .i64 a0_0) := (blk_cell BK294.out 0).trans qc; have hcz7_1 : w6.cell? ⟨gb294, 1, none⟩ = some (.slice A0_1 l0_1.length c0_1) := (blk_cell BK294.out 1).trans qc; have hcz7_2 : w6.cell? ⟨gb294, 2, none⟩ = some (.int .u64 a0_2) := (blk_cell BK294.out 2).trans qc; have hcz7_4 : w6.cell? ⟨gb294, 35, none⟩ = some (.int .u64 a0_4) := (blk_cell BK294.out 35).trans qc; have hcz7_5 : w6.cell? ⟨gb294, 36, none⟩ = some (.int .u64 a0_5) := (blk_cell BK294.out 36).trans qc))
   repeat (go_quiet (first | ((with_reducible refine qd 1 ?_); (try (refine gate_guard (by rfl) ?_; dsimp only)); refine qF (N := 1) (cs := (#[.int .i64 a0_0, .slice A0_1 l0_1.length c0_1, .int .u64 a0_2] ++ ((Ar.cells .u8 32 a0_3) ++ #[.int .u64 a0_4, .int .u64 a0_5]))) (t := 39) ?_; intro gb294 hg w6 hbox hb; have BK294 := Aside0.mk (hbox); have GW294 := Aside0.mk (qe HB hg); have GE294 := Aside0.mk (qe HB hg); replace HB := Aside0.mk (below_step (qs HB) hb); clear hb hbox hg; have hcz7_0 : w6.cell? ⟨gb294, 0, none⟩ = some (.int .i64 a0_0) := (blk_cell BK294.out 0).trans qc; have hcz7_1 : w6.cell? ⟨gb294, 1, none⟩ = some (.slice A0_1 l0_1.length c0_1) := (blk_cell BK294.out 1).trans qc; have hcz7_2 : w6.cell? ⟨gb294, 2, none⟩ = some (.int .u64 a0_2) := (blk_cell BK294.out 2).trans qc; have hcz7_4 : w6.cell? ⟨gb294, 35, none⟩ = some (.int .u64 a0_4) := (blk_cell BK294.out 35).trans qc; have hcz7_5 : w6.cell? ⟨gb294, 36, none⟩ = some (.int .u64 a0_5) := (blk_cell BK294.out 36).trans qc)); try go_wp2_with (first | ((with_reducible refine qd 1 ?_); (try (refine gate_guard (by rfl) ?_; dsimp only)); refine qF (N := 1) (cs := (#[.int .i64 a0_0, .slice A0_1 l0_1.length c0_1, .int .u64 a0_2] ++ ((Ar.cells .u8 32 a0_3) ++ #[.int .u64 a0_4, .int .u64 a0_5]))) (t := 39) ?_; intro gb294 hg w6 hbox hb; have BK294 := Aside0.mk (hbox); have GW294 := Aside0.mk (qe HB hg); have GE294 := Aside0.mk (qe HB hg); replace HB := Aside0.mk (below_step (qs HB) hb); clear hb hbox hg; have hcz7_0 : w6.cell? ⟨gb294, 0, none⟩ = some (.int .i64 a0_0) := (blk_cell BK294.out 0).trans qc; have hcz7_1 : w6.cell? ⟨gb294, 1, none⟩ = some (.slice A0_1 l0_1.length c0_1) := (blk_cell BK294.out 1).trans qc; have hcz7_2 : w6.cell? ⟨gb294, 2, none⟩ = some (.int .u64 a0_2) := (blk_cell BK294.out 2).trans qc; have hcz7_4 : w6.cell? ⟨gb294, 35, none⟩ = some (.int .u64 a0_4) := (blk_cell BK294.out 35).trans qc; have hcz7_5 : w6.cell? ⟨gb294, 36, none⟩ = some (.int .u64 a0_5) := (blk_cell BK294.out 36).trans qc)))
   go_ret2
   exact ⟨by first | rfl | (simp [errW_none, errW_some] <;> rfl) | (simp [*, errW_none, errW_some] <;> rfl), (qs HB)⟩
  ·rw [if_neg c5] at H
   have c5b0 : (a0_0 == 2) = false := beq_eq_false_iff_ne.mpr c5
   have c5b1 : (a0_0 != 2) = true := bne_iff_ne.mpr c5
   simp only [Option.some.injEq, Prod.mk.injEq] at H
   obtain ⟨rfl, rfl⟩ := H
   go_enter Tryz.func94, Tryz.ntmps94
   go_wp2_with (first | ((with_reducible refine qd 1 ?_); (try (refine gate_guard (by rfl) ?_; dsimp only)); refine qF (N := 1) (cs := (#[.int .i64 a0_0, .slice A0_1 l0_1.length c0_1, .int .u64 a0_2] ++ ((Ar.cells .u8 32 a0_3) ++ #[.int .u64 a0_4, .int .u64 a0_5]))) (t := 39) ?_; intro gb294 hg w8 hbox hb; have BK294 := Aside0.mk (hbox); have GW294 := Aside0.mk (qe HB hg); have GE294 := Aside0.mk (qe HB hg); replace HB := Aside0.mk (below_step (qs HB) hb); clear hb hbox hg; have hcz9_0 : w8.cell? ⟨gb294, 0, none⟩ = some (.int .i64 a0_0) := (blk_cell BK294.out 0).trans qc; have hcz9_1 : w8.cell? ⟨gb294, 1, none⟩ = some (.slice A0_1 l0_1.length c0_1) := (blk_cell BK294.out 1).trans qc; have hcz9_2 : w8.cell? ⟨gb294, 2, none⟩ = some (.int .u64 a0_2) := (blk_cell BK294.out 2).trans qc; have hcz9_4 : w8.cell? ⟨gb294, 35, none⟩ = some (.int .u64 a0_4) := (blk_cell BK294.out 35).trans qc; have hcz9_5 : w8.cell? ⟨gb294, 36, none⟩ = some (.int .u64 a0_5) := (blk_cell BK294.out 36).trans qc))
   repeat (go_quiet (first | ((with_reducible refine qd 1 ?_); (try (refine gate_guard (by rfl) ?_; dsimp only)); refine qF (N := 1) (cs := (#[.int .i64 a0_0, .slice A0_1 l0_1.length c0_1, .int .u64 a0_2] ++ ((Ar.cells .u8 32 a0_3) ++ #[.int .u64 a0_4, .int .u64 a0_5]))) (t := 39) ?_; intro gb294 hg w8 hbox hb; have BK294 := Aside0.mk (hbox); have GW294 := Aside0.mk (qe HB hg); have GE294 := Aside0.mk (qe HB hg); replace HB := Aside0.mk (below_step (qs HB) hb); clear hb hbox hg; have hcz9_0 : w8.cell? ⟨gb294, 0, none⟩ = some (.int .i64 a0_0) := (blk_cell BK294.out 0).trans qc; have hcz9_1 : w8.cell? ⟨gb294, 1, none⟩ = some (.slice A0_1 l0_1.length c0_1) := (blk_cell BK294.out 1).trans qc; have hcz9_2 : w8.cell? ⟨gb294, 2, none⟩ = some (.int .u64 a0_2) := (blk_cell BK294.out 2).trans qc; have hcz9_4 : w8.cell? ⟨gb294, 35, none⟩ = some (.int .u64 a0_4) := (blk_cell BK294.out 35).trans qc; have hcz9_5 : w8.cell? ⟨gb294, 36, none⟩ = some (.int .u64 a0_5) := (blk_cell BK294.out 36).trans qc)); try go_wp2_with (first | ((with_reducible refine qd 1 ?_); (try (refine gate_guard (by rfl) ?_; dsimp only)); refine qF (N := 1) (cs := (#[.int .i64 a0_0, .slice A0_1 l0_1.length c0_1, .int .u64 a0_2] ++ ((Ar.cells .u8 32 a0_3) ++ #[.int .u64 a0_4, .int .u64 a0_5]))) (t := 39) ?_; intro gb294 hg w8 hbox hb; have BK294 := Aside0.mk (hbox); have GW294 := Aside0.mk (qe HB hg); have GE294 := Aside0.mk (qe HB hg); replace HB := Aside0.mk (below_step (qs HB) hb); clear hb hbox hg; have hcz9_0 : w8.cell? ⟨gb294, 0, none⟩ = some (.int .i64 a0_0) := (blk_cell BK294.out 0).trans qc; have hcz9_1 : w8.cell? ⟨gb294, 1, none⟩ = some (.slice A0_1 l0_1.length c0_1) := (blk_cell BK294.out 1).trans qc; have hcz9_2 : w8.cell? ⟨gb294, 2, none⟩ = some (.int .u64 a0_2) := (blk_cell BK294.out 2).trans qc; have hcz9_4 : w8.cell? ⟨gb294, 35, none⟩ = some (.int .u64 a0_4) := (blk_cell BK294.out 35).trans qc; have hcz9_5 : w8.cell? ⟨gb294, 36, none⟩ = some (.int .u64 a0_5) := (blk_cell BK294.out 36).trans qc)))
   go_ret2
   exact ⟨by first | rfl | (simp [errW_none, errW_some] <;> rfl) | (simp [*, errW_none, errW_some] <;> rfl), (qs HB)⟩
def tape_Right.f (a0_0 : Int) (l0_1 : List Int) (a0_2 : Int) (a0_3 : List Int) (a0_4 : Int) (a0_5 : Int) : Option (Bool) := (tape_length.f a0_0 l0_1 a0_2 a0_3 a0_4 a0_5).bind fun bt296 => (if bt296.2 = true then (some (decide (a0_5 ≤ bt296.1))) else (some false))
set_option maxHeartbeats 8000000 in
set_option maxRecDepth 100000 in
theorem tape_Right.calls (a0_0 : Int) (A0_1 : Option Addr) (c0_1 : Nat) (l0_1 : List Int) (a0_2 : Int) (a0_3 : List Int) (a0_4 : Int) (a0_5 : Int) (r : Bool) (w : World) (hr0_1 : Kd.C (Kd.int .u8) w A0_1 l0_1.length l0_1) (hc0_1 : l0_1.length ≤ c0_1) (h : tape_Right.f a0_0 l0_1 a0_2 a0_3 a0_4 a0_5 = some r) :
  Calls Tryz.prog 66 #[.agg (#[.int .i64 a0_0, .slice A0_1 l0_1.length c0_1, .int .u64 a0_2] ++ (Ar.cells .u8 32 a0_3 ++ #[.int .u64 a0_4, .int .u64 a0_5]))] w fun e w' => e = .returned (.bool r) ∧ Below w.heap.size w w' := by
 have hu39 := Tryz.underlying39
 have HR0_1 := Aside0.mk hr0_1
 have HC0_1 := Aside0.mk hc0_1
 clear hr0_1 hc0_1
 have HB := Aside0.mk (Below.refl w.heap.size w)
 have H : ((tape_length.f a0_0 l0_1 a0_2 a0_3 a0_4 a0_5).bind fun bt296 => (if bt296.2 = true then (some (decide (a0_5 ≤ bt296.1))) else (some false))) = some r := h
 clear h
 replace H := Option.bind_eq_some_iff.mp H
 obtain ⟨⟨t296, t297⟩, A20, H⟩ := H
 try dsimp only at H
 have A2 := Aside0.mk A20
 clear A20
 by_cases c3 : t297 = true
 ·subst c3
  have H1 : (some (decide (a0_5 ≤ t296))) = some r := by rw [if_pos rfl] at H; exact H
  clear H
  have H := H1
  clear H1
  obtain rfl := Option.some.inj H
  go_enter Tryz.func66, Tryz.ntmps66
  go_wp2_with (first | ((with_reducible refine qd 1 ?_); (try (refine gate_guard (by rfl) ?_; dsimp only)); refine qF (N := 1) (cs := (#[.int .i64 a0_0, .slice A0_1 l0_1.length c0_1, .int .u64 a0_2] ++ ((Ar.cells .u8 32 a0_3) ++ #[.int .u64 a0_4, .int .u64 a0_5]))) (t := 39) ?_; intro gb295 hg w4 hbox hb; have BK295 := Aside0.mk (hbox); have GW295 := Aside0.mk (qe HB hg); have GE295 := Aside0.mk (qe HB hg); replace HB := Aside0.mk (below_step (qs HB) hb); clear hb hbox hg) | ((with_reducible refine qd 6 ?_); (try (refine gate_guard (by rfl) ?_; dsimp only)); refine Ar.gload_event rfl (T := 39) rfl Tryz.underlying39 rfl (D := (#[.int .i64 a0_0, .slice A0_1 l0_1.length c0_1, .int .u64 a0_2] ++ ((Ar.cells .u8 32 a0_3) ++ #[.int .u64 a0_4, .int .u64 a0_5]))) qz (A := ⟨gb295, 0, none⟩) rfl (Ar.blk_part (qb BK295) Ar.in_whole) ?_) | ((with_reducible refine gate_callee (f := 94) rfl ?_); refine goesL_ (some 7) rfl rfl Tryz.func94 (by kernel_rfl) rfl #[.agg (#[.int .i64 a0_0, .slice A0_1 l0_1.length c0_1, .int .u64 a0_2] ++ ((Ar.cells .u8 32 a0_3) ++ #[.int .u64 a0_4, .int .u64 a0_5]))] rfl ql ?_; (with_reducible refine (tape_length.calls a0_0 _ _ l0_1 a0_2 a0_3 a0_4 a0_5 t296 true _ ?side1 ?side2 A2.out).mono ?_); (case side1 => repeat (first | exact (Kd.C_below HR0_1.out HB.out) | (with_reducible refine Kd.C_alloc ?_ _) | (with_reducible refine Kd.C_drewN ?_ _) | (with_reducible refine Kd.C_drew ?_))); (case side2 => exact HC0_1.out); rintro e w5 ⟨rfl, hb⟩; refine ⟨_, rfl, ?_⟩; replace BK295 := Aside0.mk (qB BK295 hb); replace HB := Aside0.mk (below_step (qs HB) hb); (try clear hb); (try clear hb2); (try clear hk); (try clear hi); have hcz6_0 : w5.cell? ⟨gb295, 0, none⟩ = some (.int .i64 a0_0) := (blk_cell BK295.out 0).trans qc; have hcz6_1 : w5.cell? ⟨gb295, 1, none⟩ = some (.slice A0_1 l0_1.length c0_1) := (blk_cell BK295.out 1).trans qc; have hcz6_2 : w5.cell? ⟨gb295, 2, none⟩ = some (.int .u64 a0_2) := (blk_cell BK295.out 2).trans qc; have hcz6_4 : w5.cell? ⟨gb295, 35, none⟩ = some (.int .u64 a0_4) := (blk_cell BK295.out 35).trans qc; have hcz6_5 : w5.cell? ⟨gb295, 36, none⟩ = some (.int .u64 a0_5) := (blk_cell BK295.out 36).trans qc))
  go_ret
  exact ⟨by first | rfl | (simp [errW_none, errW_some] <;> rfl) | (simp [*, errW_none, errW_some] <;> rfl), (qs HB)⟩
 ·replace c3 := Bool.eq_false_iff.mpr c3
  subst c3
  have H1 : (some false) = some r := by rw [if_neg (show ¬ (false = true) by decide)] at H; exact H
  clear H
  have H := H1
  clear H1
  obtain rfl := Option.some.inj H
  go_enter Tryz.func66, Tryz.ntmps66
  go_wp2_with (first | ((with_reducible refine qd 1 ?_); (try (refine gate_guard (by rfl) ?_; dsimp only)); refine qF (N := 1) (cs := (#[.int .i64 a0_0, .slice A0_1 l0_1.length c0_1, .int .u64 a0_2] ++ ((Ar.cells .u8 32 a0_3) ++ #[.int .u64 a0_4, .int .u64 a0_5]))) (t := 39) ?_; intro gb295 hg w7 hbox hb; have BK295 := Aside0.mk (hbox); have GW295 := Aside0.mk (qe HB hg); have GE295 := Aside0.mk (qe HB hg); replace HB := Aside0.mk (below_step (qs HB) hb); clear hb hbox hg) | ((with_reducible refine qd 6 ?_); (try (refine gate_guard (by rfl) ?_; dsimp only)); refine Ar.gload_event rfl (T := 39) rfl Tryz.underlying39 rfl (D := (#[.int .i64 a0_0, .slice A0_1 l0_1.length c0_1, .int .u64 a0_2] ++ ((Ar.cells .u8 32 a0_3) ++ #[.int .u64 a0_4, .int .u64 a0_5]))) qz (A := ⟨gb295, 0, none⟩) rfl (Ar.blk_part (qb BK295) Ar.in_whole) ?_) | ((with_reducible refine gate_callee (f := 94) rfl ?_); refine goesL_ (some 7) rfl rfl Tryz.func94 (by kernel_rfl) rfl #[.agg (#[.int .i64 a0_0, .slice A0_1 l0_1.length c0_1, .int .u64 a0_2] ++ ((Ar.cells .u8 32 a0_3) ++ #[.int .u64 a0_4, .int .u64 a0_5]))] rfl ql ?_; (with_reducible refine (tape_length.calls a0_0 _ _ l0_1 a0_2 a0_3 a0_4 a0_5 t296 false _ ?side1 ?side2 A2.out).mono ?_); (case side1 => repeat (first | exact (Kd.C_below HR0_1.out HB.out) | (with_reducible refine Kd.C_alloc ?_ _) | (with_reducible refine Kd.C_drewN ?_ _) | (with_reducible refine Kd.C_drew ?_))); (case side2 => exact HC0_1.out); rintro e w8 ⟨rfl, hb⟩; refine ⟨_, rfl, ?_⟩; replace BK295 := Aside0.mk (qB BK295 hb); replace HB := Aside0.mk (below_step (qs HB) hb); (try clear hb); (try clear hb2); (try clear hk); (try clear hi)))
  go_ret
  exact ⟨by first | rfl | (simp [errW_none, errW_some] <;> rfl) | (simp [*, errW_none, errW_some] <;> rfl), (qs HB)⟩
def uniform_may.f (a0_0 : Int) (l0_1 : List Int) (a0_2 : Int) (a0_3 : List Int) (a0_4 : Int) (a0_5 : Int) (a1 : Int) (a2 : Int) : Option (Bool) := (tape_Right.f a0_0 l0_1 a0_2 a0_3 a0_4 a0_5).bind fun t299 => (if t299 = true then (if a1 > 0 then (if a1 < 9223372036854775808 then (if a2 > 0 then (some (decide (a2 ≤ 64))) else (some false)) else (some false)) else (some false)) else (some false))
set_option maxHeartbeats 8000000 in
set_option maxRecDepth 100000 in
theorem uniform_may.calls (a0_0 : Int) (A0_1 : Option Addr) (c0_1 : Nat) (l0_1 : List Int) (a0_2 : Int) (a0_3 : List Int) (a0_4 : Int) (a0_5 : Int) (a1 : Int) (a2 : Int) (r : Bool) (w : World) (hr0_1 : Kd.C (Kd.int .u8) w A0_1 l0_1.length l0_1) (hc0_1 : l0_1.length ≤ c0_1) (h : uniform_may.f a0_0 l0_1 a0_2 a0_3 a0_4 a0_5 a1 a2 = some r) :
  Calls Tryz.prog 68 #[.agg (#[.int .i64 a0_0, .slice A0_1 l0_1.length c0_1, .int .u64 a0_2] ++ (Ar.cells .u8 32 a0_3 ++ #[.int .u64 a0_4, .int .u64 a0_5])), .int .u64 a1, .int .i64 a2] w fun e w' => e = .returned (.bool r) ∧ Below w.heap.size w w' := by
 have hu39 := Tryz.underlying39
 have HR0_1 := Aside0.mk hr0_1
 have HC0_1 := Aside0.mk hc0_1
 clear hr0_1 hc0_1
 have HB := Aside0.mk (Below.refl w.heap.size w)
 have H : ((tape_Right.f a0_0 l0_1 a0_2 a0_3 a0_4 a0_5).bind fun t299 => (if t299 = true then (if a1 > 0 then (if a1 < 9223372036854775808 then (if a2 > 0 then (some (decide (a2 ≤ 64))) else (some false)) else (some false)) else (some false)) else (some false))) = some r := h
 clear h
 replace H := Option.bind_eq_some_iff.mp H
 obtain ⟨t299, A40, H⟩ := H
 try dsimp only at H
 have A4 := Aside0.mk A40
 clear A40
 by_cases c5 : t299 = true
 ·subst c5
  have H1 : (if a1 > 0 then (if a1 < 9223372036854775808 then (if a2 > 0 then (some (decide (a2 ≤ 64))) else (some false)) else (some false)) else (some false)) = some r := by rw [if_pos rfl] at H; exact H
  clear H
  have H := H1
  clear H1
  by_cases c6 : a1 > 0
  ·rw [if_pos c6] at H
   have c6b0 : decide (0 < a1) = true := decide_eq_true c6
   clear c6
   by_cases c7 : a1 < 9223372036854775808
   ·rw [if_pos c7] at H
    have c7b0 : decide (a1 < 9223372036854775808) = true := decide_eq_true c7
    clear c7
    by_cases c8 : a2 > 0
    ·rw [if_pos c8] at H
     have c8b0 : decide (0 < a2) = true := decide_eq_true c8
     clear c8
     obtain rfl := Option.some.inj H
     go_enter Tryz.func68, Tryz.ntmps68
     go_wp2_with (first | ((with_reducible refine qd 3 ?_); (try (refine gate_guard (by rfl) ?_; dsimp only)); refine qF (N := 3) (cs := (#[.int .i64 a0_0, .slice A0_1 l0_1.length c0_1, .int .u64 a0_2] ++ ((Ar.cells .u8 32 a0_3) ++ #[.int .u64 a0_4, .int .u64 a0_5]))) (t := 39) ?_; intro gb298 hg w9 hbox hb; have BK298 := Aside0.mk (hbox); have GW298 := Aside0.mk (qe HB hg); have GE298 := Aside0.mk (qe HB hg); replace HB := Aside0.mk (below_step (qs HB) hb); clear hb hbox hg) | ((with_reducible refine qd 7 ?_); (try (refine gate_guard (by rfl) ?_; dsimp only)); refine Ar.gload_event rfl (T := 39) rfl Tryz.underlying39 rfl (D := (#[.int .i64 a0_0, .slice A0_1 l0_1.length c0_1, .int .u64 a0_2] ++ ((Ar.cells .u8 32 a0_3) ++ #[.int .u64 a0_4, .int .u64 a0_5]))) qz (A := ⟨gb298, 0, none⟩) rfl (Ar.blk_part (qb BK298) Ar.in_whole) ?_) | ((with_reducible refine gate_callee (f := 66) rfl ?_); refine goesL_ (some 8) rfl rfl Tryz.func66 (by kernel_rfl) rfl #[.agg (#[.int .i64 a0_0, .slice A0_1 l0_1.length c0_1, .int .u64 a0_2] ++ ((Ar.cells .u8 32 a0_3) ++ #[.int .u64 a0_4, .int .u64 a0_5]))] rfl ql ?_; (with_reducible refine (tape_Right.calls a0_0 _ _ l0_1 a0_2 a0_3 a0_4 a0_5 true _ ?side1 ?side2 A4.out).mono ?_); (case side1 => repeat (first | exact (Kd.C_below HR0_1.out HB.out) | (with_reducible refine Kd.C_alloc ?_ _) | (with_reducible refine Kd.C_drewN ?_ _) | (with_reducible refine Kd.C_drew ?_))); (case side2 => exact HC0_1.out); rintro e w10 ⟨rfl, hb⟩; refine ⟨_, rfl, ?_⟩; replace BK298 := Aside0.mk (qB BK298 hb); replace HB := Aside0.mk (below_step (qs HB) hb); (try clear hb); (try clear hb2); (try clear hk); (try clear hi)))
     go_ret
     exact ⟨by first | rfl | (simp [errW_none, errW_some] <;> rfl) | (simp [*, errW_none, errW_some] <;> rfl), (qs HB)⟩
    ·rw [if_neg c8] at H
     have c8b0 : decide (0 < a2) = false := decide_eq_false c8
     clear c8
     obtain rfl := Option.some.inj H
     go_enter Tryz.func68, Tryz.ntmps68
     go_wp2_with (first | ((with_reducible refine qd 3 ?_); (try (refine gate_guard (by rfl) ?_; dsimp only)); refine qF (N := 3) (cs := (#[.int .i64 a0_0, .slice A0_1 l0_1.length c0_1, .int .u64 a0_2] ++ ((Ar.cells .u8 32 a0_3) ++ #[.int .u64 a0_4, .int .u64 a0_5]))) (t := 39) ?_; intro gb298 hg w11 hbox hb; have BK298 := Aside0.mk (hbox); have GW298 := Aside0.mk (qe HB hg); have GE298 := Aside0.mk (qe HB hg); replace HB := Aside0.mk (below_step (qs HB) hb); clear hb hbox hg) | ((with_reducible refine qd 7 ?_); (try (refine gate_guard (by rfl) ?_; dsimp only)); refine Ar.gload_event rfl (T := 39) rfl Tryz.underlying39 rfl (D := (#[.int .i64 a0_0, .slice A0_1 l0_1.length c0_1, .int .u64 a0_2] ++ ((Ar.cells .u8 32 a0_3) ++ #[.int .u64 a0_4, .int .u64 a0_5]))) qz (A := ⟨gb298, 0, none⟩) rfl (Ar.blk_part (qb BK298) Ar.in_whole) ?_) | ((with_reducible refine gate_callee (f := 66) rfl ?_); refine goesL_ (some 8) rfl rfl Tryz.func66 (by kernel_rfl) rfl #[.agg (#[.int .i64 a0_0, .slice A0_1 l0_1.length c0_1, .int .u64 a0_2] ++ ((Ar.cells .u8 32 a0_3) ++ #[.int .u64 a0_4, .int .u64 a0_5]))] rfl ql ?_; (with_reducible refine (tape_Right.calls a0_0 _ _ l0_1 a0_2 a0_3 a0_4 a0_5 true _ ?side1 ?side2 A4.out).mono ?_); (case side1 => repeat (first | exact (Kd.C_below HR0_1.out HB.out) | (with_reducible refine Kd.C_alloc ?_ _) | (with_reducible refine Kd.C_drewN ?_ _) | (with_reducible refine Kd.C_drew ?_))); (case side2 => exact HC0_1.out); rintro e w12 ⟨rfl, hb⟩; refine ⟨_, rfl, ?_⟩; replace BK298 := Aside0.mk (qB BK298 hb); replace HB := Aside0.mk (below_step (qs HB) hb); (try clear hb); (try clear hb2); (try clear hk); (try clear hi)))
     go_ret
     exact ⟨by first | rfl | (simp [errW_none, errW_some] <;> rfl) | (simp [*, errW_none, errW_some] <;> rfl), (qs HB)⟩
   ·rw [if_neg c7] at H
    have c7b0 : decide (a1 < 9223372036854775808) = false := decide_eq_false c7
    clear c7
    obtain rfl := Option.some.inj H
    go_enter Tryz.func68, Tryz.ntmps68
    go_wp2_with (first | ((with_reducible refine qd 3 ?_); (try (refine gate_guard (by rfl) ?_; dsimp only)); refine qF (N := 3) (cs := (#[.int .i64 a0_0, .slice A0_1 l0_1.length c0_1, .int .u64 a0_2] ++ ((Ar.cells .u8 32 a0_3) ++ #[.int .u64 a0_4, .int .u64 a0_5]))) (t := 39) ?_; intro gb298 hg w13 hbox hb; have BK298 := Aside0.mk (hbox); have GW298 := Aside0.mk (qe HB hg); have GE298 := Aside0.mk (qe HB hg); replace HB := Aside0.mk (below_step (qs HB) hb); clear hb hbox hg) | ((with_reducible refine qd 7 ?_); (try (refine gate_guard (by rfl) ?_; dsimp only)); refine Ar.gload_event rfl (T := 39) rfl Tryz.underlying39 rfl (D := (#[.int .i64 a0_0, .slice A0_1 l0_1.length c0_1, .int .u64 a0_2] ++ ((Ar.cells .u8 32 a0_3) ++ #[.int .u64 a0_4, .int .u64 a0_5]))) qz (A := ⟨gb298, 0, none⟩) rfl (Ar.blk_part (qb BK298) Ar.in_whole) ?_) | ((with_reducible refine gate_callee (f := 66) rfl ?_); refine goesL_ (some 8) rfl rfl Tryz.func66 (by kernel_rfl) rfl #[.agg (#[.int .i64 a0_0, .slice A0_1 l0_1.length c0_1, .int .u64 a0_2] ++ ((Ar.cells .u8 32 a0_3) ++ #[.int .u64 a0_4, .int .u64 a0_5]))] rfl ql ?_; (with_reducible refine (tape_Right.calls a0_0 _ _ l0_1 a0_2 a0_3 a0_4 a0_5 true _ ?side1 ?side2 A4.out).mono ?_); (case side1 => repeat (first | exact (Kd.C_below HR0_1.out HB.out) | (with_reducible refine Kd.C_alloc ?_ _) | (with_reducible refine Kd.C_drewN ?_ _) | (with_reducible refine Kd.C_drew ?_))); (case side2 => exact HC0_1.out); rintro e w14 ⟨rfl, hb⟩; refine ⟨_, rfl, ?_⟩; replace BK298 := Aside0.mk (qB BK298 hb); replace HB := Aside0.mk (below_step (qs HB) hb); (try clear hb); (try clear hb2); (try clear hk); (try clear hi)))
    go_ret
    exact ⟨by first | rfl | (simp [errW_none, errW_some] <;> rfl) | (simp [*, errW_none, errW_some] <;> rfl), (qs HB)⟩
  ·rw [if_neg c6] at H
   have c6b0 : decide (0 < a1) = false := decide_eq_false c6
   clear c6
   obtain rfl := Option.some.inj H
   go_enter Tryz.func68, Tryz.ntmps68
   go_wp2_with (first | ((with_reducible refine qd 3 ?_); (try (refine gate_guard (by rfl) ?_; dsimp only)); refine qF (N := 3) (cs := (#[.int .i64 a0_0, .slice A0_1 l0_1.length c0_1, .int .u64 a0_2] ++ ((Ar.cells .u8 32 a0_3) ++ #[.int .u64 a0_4, .int .u64 a0_5]))) (t := 39) ?_; intro gb298 hg w15 hbox hb; have BK298 := Aside0.mk (hbox); have GW298 := Aside0.mk (qe HB hg); have GE298 := Aside0.mk (qe HB hg); replace HB := Aside0.mk (below_step (qs HB) hb); clear hb hbox hg) | ((with_reducible refine qd 7 ?_); (try (refine gate_guard (by rfl) ?_; dsimp only)); refine Ar.gload_event rfl (T := 39) rfl Tryz.underlying39 rfl (D := (#[.int .i64 a0_0, .slice A0_1 l0_1.length c0_1, .int .u64 a0_2] ++ ((Ar.cells .u8 32 a0_3) ++ #[.int .u64 a0_4, .int .u64 a0_5]))) qz (A := ⟨gb298, 0, none⟩) rfl (Ar.blk_part (qb BK298) Ar.in_whole) ?_) | ((with_reducible refine gate_callee (f := 66) rfl ?_); refine goesL_ (some 8) rfl rfl Tryz.func66 (by kernel_rfl) rfl #[.agg (#[.int .i64 a0_0, .slice A0_1 l0_1.length c0_1, .int .u64 a0_2] ++ ((Ar.cells .u8 32 a0_3) ++ #[.int .u64 a0_4, .int .u64 a0_5]))] rfl ql ?_; (with_reducible refine (tape_Right.calls a0_0 _ _ l0_1 a0_2 a0_3 a0_4 a0_5 true _ ?side1 ?side2 A4.out).mono ?_); (case side1 => repeat (first | exact (Kd.C_below HR0_1.out HB.out) | (with_reducible refine Kd.C_alloc ?_ _) | (with_reducible refine Kd.C_drewN ?_ _) | (with_reducible refine Kd.C_drew ?_))); (case side2 => exact HC0_1.out); rintro e w16 ⟨rfl, hb⟩; refine ⟨_, rfl, ?_⟩; replace BK298 := Aside0.mk (qB BK298 hb); replace HB := Aside0.mk (below_step (qs HB) hb); (try clear hb); (try clear hb2); (try clear hk); (try clear hi)))
   go_ret
   exact ⟨by first | rfl | (simp [errW_none, errW_some] <;> rfl) | (simp [*, errW_none, errW_some] <;> rfl), (qs HB)⟩
 ·replace c5 := Bool.eq_false_iff.mpr c5
  subst c5
  have H1 : (some false) = some r := by rw [if_neg (show ¬ (false = true) by decide)] at H; exact H
  clear H
  have H := H1
  clear H1
  obtain rfl := Option.some.inj H
  go_enter Tryz.func68, Tryz.ntmps68
  go_wp2_with (first | ((with_reducible refine qd 3 ?_); (try (refine gate_guard (by rfl) ?_; dsimp only)); refine qF (N := 3) (cs := (#[.int .i64 a0_0, .slice A0_1 l0_1.length c0_1, .int .u64 a0_2] ++ ((Ar.cells .u8 32 a0_3) ++ #[.int .u64 a0_4, .int .u64 a0_5]))) (t := 39) ?_; intro gb298 hg w17 hbox hb; have BK298 := Aside0.mk (hbox); have GW298 := Aside0.mk (qe HB hg); have GE298 := Aside0.mk (qe HB hg); replace HB := Aside0.mk (below_step (qs HB) hb); clear hb hbox hg) | ((with_reducible refine qd 7 ?_); (try (refine gate_guard (by rfl) ?_; dsimp only)); refine Ar.gload_event rfl (T := 39) rfl Tryz.underlying39 rfl (D := (#[.int .i64 a0_0, .slice A0_1 l0_1.length c0_1, .int .u64 a0_2] ++ ((Ar.cells .u8 32 a0_3) ++ #[.int .u64 a0_4, .int .u64 a0_5]))) qz (A := ⟨gb298, 0, none⟩) rfl (Ar.blk_part (qb BK298) Ar.in_whole) ?_) | ((with_reducible refine gate_callee (f := 66) rfl ?_); refine goesL_ (some 8) rfl rfl Tryz.func66 (by kernel_rfl) rfl #[.agg (#[.int .i64 a0_0, .slice A0_1 l0_1.length c0_1, .int .u64 a0_2] ++ ((Ar.cells .u8 32 a0_3) ++ #[.int .u64 a0_4, .int .u64 a0_5]))] rfl ql ?_; (with_reducible refine (tape_Right.calls a0_0 _ _ l0_1 a0_2 a0_3 a0_4 a0_5 false _ ?side1 ?side2 A4.out).mono ?_); (case side1 => repeat (first | exact (Kd.C_below HR0_1.out HB.out) | (with_reducible refine Kd.C_alloc ?_ _) | (with_reducible refine Kd.C_drewN ?_ _) | (with_reducible refine Kd.C_drew ?_))); (case side2 => exact HC0_1.out); rintro e w18 ⟨rfl, hb⟩; refine ⟨_, rfl, ?_⟩; replace BK298 := Aside0.mk (qB BK298 hb); replace HB := Aside0.mk (below_step (qs HB) hb); (try clear hb); (try clear hb2); (try clear hk); (try clear hi)))
  go_ret
  exact ⟨by first | rfl | (simp [errW_none, errW_some] <;> rfl) | (simp [*, errW_none, errW_some] <;> rfl), (qs HB)⟩
def tape_Left.f (a0_0 : Int) (l0_1 : List Int) (a0_2 : Int) (a0_3 : List Int) (a0_4 : Int) (a0_5 : Int) : Option (Int) := (tape_Right.f a0_0 l0_1 a0_2 a0_3 a0_4 a0_5).bind fun t301 => (if t301 = true then ((tape_length.f a0_0 l0_1 a0_2 a0_3 a0_4 a0_5).bind fun bt302 => (some (IntKind.u64.wrap (bt302.1 - a0_5)))) else (some 0))
set_option maxHeartbeats 8000000 in
set_option maxRecDepth 100000 in
theorem tape_Left.calls (a0_0 : Int) (A0_1 : Option Addr) (c0_1 : Nat) (l0_1 : List Int) (a0_2 : Int) (a0_3 : List Int) (a0_4 : Int) (a0_5 : Int) (r : Int) (w : World) (hr0_1 : Kd.C (Kd.int .u8) w A0_1 l0_1.length l0_1) (hc0_1 : l0_1.length ≤ c0_1) (h : tape_Left.f a0_0 l0_1 a0_2 a0_3 a0_4 a0_5 = some r) :
  Calls Tryz.prog 95 #[.agg (#[.int .i64 a0_0, .slice A0_1 l0_1.length c0_1, .int .u64 a0_2] ++ (Ar.cells .u8 32 a0_3 ++ #[.int .u64 a0_4, .int .u64 a0_5]))] w fun e w' => e = .returned (.int .u64 r) ∧ Below w.heap.size w w' := by
 have hu39 := Tryz.underlying39
 have HR0_1 := Aside0.mk hr0_1
 have HC0_1 := Aside0.mk hc0_1
 clear hr0_1 hc0_1
 have HB := Aside0.mk (Below.refl w.heap.size w)
 have H : ((tape_Right.f a0_0 l0_1 a0_2 a0_3 a0_4 a0_5).bind fun t301 => (if t301 = true then ((tape_length.f a0_0 l0_1 a0_2 a0_3 a0_4 a0_5).bind fun bt302 => (some (IntKind.u64.wrap (bt302.1 - a0_5)))) else (some 0))) = some r := h
 clear h
 replace H := Option.bind_eq_some_iff.mp H
 obtain ⟨t301, A20, H⟩ := H
 try dsimp only at H
 have A2 := Aside0.mk A20
 clear A20
 by_cases c3 : t301 = true
 ·subst c3
  have H1 : ((tape_length.f a0_0 l0_1 a0_2 a0_3 a0_4 a0_5).bind fun bt302 => (some (IntKind.u64.wrap (bt302.1 - a0_5)))) = some r := by rw [if_pos rfl] at H; exact H
  clear H
  have H := H1
  clear H1
  replace H := Option.bind_eq_some_iff.mp H
  obtain ⟨⟨t302, t303⟩, A40, H⟩ := H
  try dsimp only at H
  have A4 := Aside0.mk A40
  clear A40
  obtain rfl := Option.some.inj H
  go_enter Tryz.func95, Tryz.ntmps95
  go_wp2_with (first | ((with_reducible refine qd 1 ?_); (try (refine gate_guard (by rfl) ?_; dsimp only)); refine qF (N := 1) (cs := (#[.int .i64 a0_0, .slice A0_1 l0_1.length c0_1, .int .u64 a0_2] ++ ((Ar.cells .u8 32 a0_3) ++ #[.int .u64 a0_4, .int .u64 a0_5]))) (t := 39) ?_; intro gb300 hg w5 hbox hb; have BK300 := Aside0.mk (hbox); have GW300 := Aside0.mk (qe HB hg); have GE300 := Aside0.mk (qe HB hg); replace HB := Aside0.mk (below_step (qs HB) hb); clear hb hbox hg) | ((with_reducible refine qd 5 ?_); (try (refine gate_guard (by rfl) ?_; dsimp only)); refine Ar.gload_event rfl (T := 39) rfl Tryz.underlying39 rfl (D := (#[.int .i64 a0_0, .slice A0_1 l0_1.length c0_1, .int .u64 a0_2] ++ ((Ar.cells .u8 32 a0_3) ++ #[.int .u64 a0_4, .int .u64 a0_5]))) qz (A := ⟨gb300, 0, none⟩) rfl (Ar.blk_part (qb BK300) Ar.in_whole) ?_) | ((with_reducible refine gate_callee (f := 66) rfl ?_); refine goesL_ (some 6) rfl rfl Tryz.func66 (by kernel_rfl) rfl #[.agg (#[.int .i64 a0_0, .slice A0_1 l0_1.length c0_1, .int .u64 a0_2] ++ ((Ar.cells .u8 32 a0_3) ++ #[.int .u64 a0_4, .int .u64 a0_5]))] rfl ql ?_; (with_reducible refine (tape_Right.calls a0_0 _ _ l0_1 a0_2 a0_3 a0_4 a0_5 true _ ?side1 ?side2 A2.out).mono ?_); (case side1 => repeat (first | exact (Kd.C_below HR0_1.out HB.out) | (with_reducible refine Kd.C_alloc ?_ _) | (with_reducible refine Kd.C_drewN ?_ _) | (with_reducible refine Kd.C_drew ?_))); (case side2 => exact HC0_1.out); rintro e w6 ⟨rfl, hb⟩; refine ⟨_, rfl, ?_⟩; replace BK300 := Aside0.mk (qB BK300 hb); replace HB := Aside0.mk (below_step (qs HB) hb); (try clear hb); (try clear hb2); (try clear hk); (try clear hi)) | ((with_reducible refine qd 9 ?_); (try (refine gate_guard (by rfl) ?_; dsimp only)); refine Ar.gload_event rfl (T := 39) rfl Tryz.underlying39 rfl (D := (#[.int .i64 a0_0, .slice A0_1 l0_1.length c0_1, .int .u64 a0_2] ++ ((Ar.cells .u8 32 a0_3) ++ #[.int .u64 a0_4, .int .u64 a0_5]))) qz (A := ⟨gb300, 0, none⟩) rfl (Ar.blk_part (qb BK300) Ar.in_whole) ?_) | ((with_reducible refine gate_callee (f := 94) rfl ?_); refine goesL_ (some 10) rfl rfl Tryz.func94 (by kernel_rfl) rfl #[.agg (#[.int .i64 a0_0, .slice A0_1 l0_1.length c0_1, .int .u64 a0_2] ++ ((Ar.cells .u8 32 a0_3) ++ #[.int .u64 a0_4, .int .u64 a0_5]))] rfl ql ?_; (with_reducible refine (tape_length.calls a0_0 _ _ l0_1 a0_2 a0_3 a0_4 a0_5 t302 t303 _ ?side1 ?side2 A4.out).mono ?_); (case side1 => repeat (first | exact (Kd.C_below HR0_1.out HB.out) | (with_reducible refine Kd.C_alloc ?_ _) | (with_reducible refine Kd.C_drewN ?_ _) | (with_reducible refine Kd.C_drew ?_))); (case side2 => exact HC0_1.out); rintro e w7 ⟨rfl, hb⟩; refine ⟨_, rfl, ?_⟩; replace BK300 := Aside0.mk (qB BK300 hb); replace HB := Aside0.mk (below_step (qs HB) hb); (try clear hb); (try clear hb2); (try clear hk); (try clear hi); have hcz8_0 : w7.cell? ⟨gb300, 0, none⟩ = some (.int .i64 a0_0) := (blk_cell BK300.out 0).trans qc; have hcz8_1 : w7.cell? ⟨gb300, 1, none⟩ = some (.slice A0_1 l0_1.length c0_1) := (blk_cell BK300.out 1).trans qc; have hcz8_2 : w7.cell? ⟨gb300, 2, none⟩ = some (.int .u64 a0_2) := (blk_cell BK300.out 2).trans qc; have hcz8_4 : w7.cell? ⟨gb300, 35, none⟩ = some (.int .u64 a0_4) := (blk_cell BK300.out 35).trans qc; have hcz8_5 : w7.cell? ⟨gb300, 36, none⟩ = some (.int .u64 a0_5) := (blk_cell BK300.out 36).trans qc))
  go_ret
  exact ⟨by first | rfl | (simp [errW_none, errW_some] <;> rfl) | (simp [*, errW_none, errW_some] <;> rfl), (qs HB)⟩
 ·replace c3 := Bool.eq_false_iff.mpr c3
  subst c3
  have H1 : (some 0) = some r := by rw [if_neg (show ¬ (false = true) by decide)] at H; exact H
  clear H
  have H := H1
  clear H1
  obtain rfl := Option.some.inj H
  go_enter Tryz.func95, Tryz.ntmps95
  go_wp2_with (first | ((with_reducible refine qd 1 ?_); (try (refine gate_guard (by rfl) ?_; dsimp only)); refine qF (N := 1) (cs := (#[.int .i64 a0_0, .slice A0_1 l0_1.length c0_1, .int .u64 a0_2] ++ ((Ar.cells .u8 32 a0_3) ++ #[.int .u64 a0_4, .int .u64 a0_5]))) (t := 39) ?_; intro gb300 hg w9 hbox hb; have BK300 := Aside0.mk (hbox); have GW300 := Aside0.mk (qe HB hg); have GE300 := Aside0.mk (qe HB hg); replace HB := Aside0.mk (below_step (qs HB) hb); clear hb hbox hg) | ((with_reducible refine qd 5 ?_); (try (refine gate_guard (by rfl) ?_; dsimp only)); refine Ar.gload_event rfl (T := 39) rfl Tryz.underlying39 rfl (D := (#[.int .i64 a0_0, .slice A0_1 l0_1.length c0_1, .int .u64 a0_2] ++ ((Ar.cells .u8 32 a0_3) ++ #[.int .u64 a0_4, .int .u64 a0_5]))) qz (A := ⟨gb300, 0, none⟩) rfl (Ar.blk_part (qb BK300) Ar.in_whole) ?_) | ((with_reducible refine gate_callee (f := 66) rfl ?_); refine goesL_ (some 6) rfl rfl Tryz.func66 (by kernel_rfl) rfl #[.agg (#[.int .i64 a0_0, .slice A0_1 l0_1.length c0_1, .int .u64 a0_2] ++ ((Ar.cells .u8 32 a0_3) ++ #[.int .u64 a0_4, .int .u64 a0_5]))] rfl ql ?_; (with_reducible refine (tape_Right.calls a0_0 _ _ l0_1 a0_2 a0_3 a0_4 a0_5 false _ ?side1 ?side2 A2.out).mono ?_); (case side1 => repeat (first | exact (Kd.C_below HR0_1.out HB.out) | (with_reducible refine Kd.C_alloc ?_ _) | (with_reducible refine Kd.C_drewN ?_ _) | (with_reducible refine Kd.C_drew ?_))); (case side2 => exact HC0_1.out); rintro e w10 ⟨rfl, hb⟩; refine ⟨_, rfl, ?_⟩; replace BK300 := Aside0.mk (qB BK300 hb); replace HB := Aside0.mk (below_step (qs HB) hb); (try clear hb); (try clear hb2); (try clear hk); (try clear hi)))
  go_ret
  exact ⟨by first | rfl | (simp [errW_none, errW_some] <;> rfl) | (simp [*, errW_none, errW_some] <;> rfl), (qs HB)⟩
def bytes_Clone.f (l0 : List Int) : Option (List Int) := (some (([] : List Int) : List Int)).bind fun y306 => (if y306.length + l0.length < 140737488355328 then (some (y306 ++ l0)) else (none))
set_option maxHeartbeats 8000000 in
set_option maxRecDepth 100000 in
theorem bytes_Clone.calls (A0 : Option Addr) (c0 : Nat) (l0 : List Int) (r : List Int) (w : World) (hr0 : Kd.C (Kd.int .u8) w A0 l0.length l0) (hc0 : l0.length ≤ c0) (h : bytes_Clone.f l0 = some r) :
    Calls Tryz.prog 65 #[.slice A0 l0.length c0] w fun e w' => ∃ v0_ : Value, e = .returned (v0_) ∧ Kd.R (Kd.int .u8) 5 w' w.heap.size (fun _ => True) v0_ r ∧ Below w.heap.size w w' := by
  cases A0 with
  | none =>
    obtain rfl : l0 = [] := by
      rcases l0 with _ | ⟨x_, l_⟩
      · rfl
      · exact absurd hr0 (by intro z_; obtain ⟨ad_, e_, _⟩ := Kd.at_int z_ 0 (by decide) (by first | (simp; done) | (simp; omega)); cases e_)
    have hq_ : r = [] := by simpa [bytes_Clone.f] using h.symm
    subst hq_
    have hnil_ := fun (w_ : World) => Lib.run_eql_slice_nil (P := Tryz.prog) w_ 35 5 none 0 c0 0 0 Tryz.underlying35
    clear h hr0 hc0
    go_enter Tryz.func65, Tryz.ntmps65
    go_wp2
    go_ret
    exact ⟨_, rfl, Kd.R_nil _ _ _ _ _, by repeat (first | exact Below.refl _ _ | apply pw_below_drewN | apply below_drew1)⟩
  | some A0 =>
    have HR0 := Aside0.mk hr0
    have HC0 := Aside0.mk hc0
    clear hr0 hc0
    have HB := Aside0.mk (Below.refl w.heap.size w)
    have H : ((some (([] : List Int) : List Int)).bind fun y306 => (if y306.length + l0.length < 140737488355328 then (some (y306 ++ l0)) else (none))) = some r := h
    clear h
    obtain ⟨y306, hy306⟩ : ∃ y_ : List Int, y_ = (([] : List Int)) := ⟨_, rfl⟩
    replace H : (if y306.length + l0.length < 140737488355328 then (some (y306 ++ l0)) else (none)) = some r := by first | (rw [hy306]; with_reducible exact H) | (have H2_ := (Option.bind_some _ _).symm.trans H; rw [hy306]; with_reducible exact H2_) | (have H2_ := (Option.bind_some _ _).symm.trans H; with_reducible exact H2_) | with_reducible exact H | (rw [hy306]; exact H) | exact H
    have Ny306 := Aside0.mk hy306
    clear hy306
    by_cases c2 : y306.length + l0.length < 140737488355328
    · rw [if_pos c2] at H
      have LMc2 := Aside0.mk c2
      clear c2
      obtain ⟨y309, hy309⟩ : ∃ y_ : List Int, y_ = (y306 ++ l0) := ⟨_, rfl⟩
      replace H : (some y309) = some r := by first | (rw [hy309]; with_reducible exact H) | (have H2_ := (Option.bind_some _ _).symm.trans H; rw [hy309]; with_reducible exact H2_) | (have H2_ := (Option.bind_some _ _).symm.trans H; with_reducible exact H2_) | with_reducible exact H | (rw [hy309]; exact H) | exact H
      have Ny309 := Aside0.mk hy309
      clear hy309
      obtain rfl := Option.some.inj H
      have hnil_ := fun (w_ : World) => Lib.run_eql_slice_nil (P := Tryz.prog) w_ 35 5 (some A0) l0.length c0 0 0 Tryz.underlying35
      go_enter Tryz.func65, Tryz.ntmps65
      go_wp2_with (first | ((with_reducible refine qd 5 ?_); refine Kd.R_lit (Kd.int .u8) _ 5 ?hg (N := 5) ?hd (xs := ([] : List Int)) (inner := []) (ok := fun _ => True) (okp := fun _ => True) ?hr ?hp (fun _ hk => hk) trivial (Below.refl _ _) (Nat.le_refl _) (by simp) ?_; (case hd => rfl); (case hg => rfl); (case hr => first | (go_simp; done) | (go_simp; rfl)); (case hp => exact (Reps.none _ _)); intro v307 w3 ho4 hb hg_ hnew_; clear hg_ hnew_; (first | rw [← Ny306.out] at ho4 | (simp only [Int.reduceToNat] at ho4; rw [← Ny306.out] at ho4)); have HO308 := Aside0.mk (Kd.R_lower ho4 (below_size (qs HB))); replace HB := Aside0.mk (below_step (qs HB) hb); clear hb ho4) | ((with_reducible refine gate_builtin (b := .append) (xs := #[.tmp 5, .tmp 6]) rfl ?_); at_builtin; refine Kd.R_append_rows (Kd.int .u8) (w0 := w) w.heap.size rfl (.tmp 5) (.tmp 6) 35 5 (.int .u8 0) 1 rfl Tryz.underlying35 info5 rfl (by decide) (by omega) v307 y306 l0 _ _ _ (fun _ => True) (fun _ => False) rfl rfl ?aO ?aR (fun _ _ h => h) (fun _ h => h.elim) ?aF ?aB ?aS ?aL ?_; (case aR => repeat (first | exact (Kd.C_below HR0.out HB.out) | (with_reducible refine Kd.C_alloc ?_ _) | (with_reducible refine Kd.C_drewN ?_ _) | (with_reducible refine Kd.C_drew ?_))); (case aB => exact (qs HB)); (case aF => exact (fun _ _ => trivial)); (case aO => exact (qr HO308)); (case aS => exact (below_size (qs HB))); (case aL => have := LMc2.out; omega); intro v310 w5 ho hb hg hat; rw [← Ny309.out] at ho; replace HB := Aside0.mk (hb); have HO311 := Aside0.mk (ho); clear HO308 ho hb hg hat))
      go_ret
      exact ⟨_, by first | rfl | (simp [errW_none, errW_some] <;> rfl) | (simp [*, errW_none, errW_some] <;> rfl), (qr HO311), (qs HB)⟩
    · rw [if_neg c2] at H
      exact absurd H (by simp)
end Go.Proofs.YtekmngghebpciaaGreat.PW
end
section
namespace Go.Proofs.YtekmngghebpciaaGreat.PW
open Go.RowKit Go.Proofs.YtekmngghebpciaaGreatW.PrintWords Go.Proofs.YtekmngghebpciaaGreatW.PrintLast Go.Proofs.YtekmngghebpciaaGreatW.PrintMore
attribute [local go_sem] max2_int min2_int max_two min_two max_three min_three max_four min_four
set_option linter.unusedVariables false
set_option linter.unusedSimpArgs false
def rdC (v : Value) (bits dom at_ : Int) (seed : List Int) (Y : Array Value) : Array Value := #[.int .i64 1, v, .int .u64 bits] ++ (Ar.cells .u8 32 seed ++ (#[.int .u64 dom, .int .u64 at_] ++ Y))
theorem rdC_0 (v : Value) (bits dom at_ : Int) (seed : List Int) (Y : Array Value) : (rdC v bits dom at_ seed Y).toList[0]? = some (.int .i64 1) := by simp [rdC]
theorem rdC_1 (v : Value) (bits dom at_ : Int) (seed : List Int) (Y : Array Value) : (rdC v bits dom at_ seed Y).toList[1]? = some v := by simp [rdC]
theorem rdC_36 (v : Value) (bits dom at_ : Int) (seed : List Int) (Y : Array Value) : (rdC v bits dom at_ seed Y).toList[36]? = some (.int .u64 at_) := by
  rw [Array.getElem?_toList]
  simp [rdC, Array.getElem?_append, Ar.cells_size]
theorem rdC_set (v : Value) (bits dom at_ z : Int) (seed : List Int) (Y : Array Value) : (rdC v bits dom at_ seed Y).setIfInBounds 36 (.int .u64 z) = rdC v bits dom z seed Y := by
  unfold rdC
  rw [show (36 : Nat) = 3 + (32 + 1) from rfl, Ar.set_tail (a := 3) (c := 32 + 1) _ (by simp), Ar.set_tail (a := 32) (c := 1) _ (by simp [Ar.cells_size]), Ar.set_head _ (by simp)]
  rfl
set_option maxHeartbeats 8000000 in
set_option maxRecDepth 100000 in
theorem tape_octet (g : Nat) (A : Option Addr) (c : Nat) (l : List Int) (bits dom at_ : Int) (seed : List Int) (Y : Array Value) (n : Int) (w : World) (hb0 : w.heap[g]? = some (.cells (rdC (.slice A l.length c) bits dom at_ seed Y) 153 (0, 0))) (hC : Kd.C (Kd.int .u8) w A l.length l) (h0 : 0 ≤ n) (h1 : n < (l.length : Int)) :
    Calls Tryz.prog 115 #[.pointer (some ⟨g, 0, none⟩), .int .u64 n] w fun e w' => e = .returned (.int .u8 (rd l n)) ∧ w' = w := by
  obtain ⟨ad, eA, hx⟩ := Kd.at_int hC n h0 h1
  cases eA
  have BG := Aside0.mk hb0
  have cb0 := eq_true h0
  have cb1 := eq_true h1
  clear hb0 hC h0 h1
  go_enter Tryz.func115, Tryz.ntmps115
  go_wp2_with (first | ((with_reducible refine qd 11 ?_); refine Ar.cload_event rfl (T := 3) rfl Tryz.underlying3 rfl (A := ⟨g, 0, none⟩) rfl (v := .int .i64 1) (Ar.blk_at BG.out (rdC_0 _ _ _ _ _ _)) ?_) | ((with_reducible refine qd 17 ?_); refine Ar.cload_event rfl (T := 35) rfl Tryz.underlying35 rfl (A := ⟨g, 1, none⟩) rfl (v := .slice (some ad) l.length c) (Ar.blk_at BG.out (rdC_1 _ _ _ _ _ _)) ?_))
  go_ret
  exact ⟨rfl, rfl⟩
def tape_Take.bit (l : List Int) (at_ : Int) : Option Int := if 0 ≤ IntKind.u64.wrap (Int.tdiv at_ 8) then (if IntKind.u64.wrap (Int.tdiv at_ 8) < (l.length : Int) then some (IntKind.u64.wrap (Go.bits .and .u8 (shr .u8 (rd l (IntKind.u64.wrap (Int.tdiv at_ 8))) (IntKind.u64.wrap (7 - Int.tmod at_ 8))) 1)) else none) else none
set_option maxHeartbeats 8000000 in
set_option maxRecDepth 100000 in
theorem tape_bit (g : Nat) (A : Option Addr) (c : Nat) (l : List Int) (bits dom at_ : Int) (seed : List Int) (Y : Array Value) (r : Int) (w : World) (hb0 : w.heap[g]? = some (.cells (rdC (.slice A l.length c) bits dom at_ seed Y) 153 (0, 0))) (hC : Kd.C (Kd.int .u8) w A l.length l) (h : tape_Take.bit l at_ = some r) :
    Calls Tryz.prog 96 #[.pointer (some ⟨g, 0, none⟩)] w fun e w' => e = .returned (.int .u64 r) ∧ w'.heap[g]? = some (.cells (rdC (.slice A l.length c) bits dom (IntKind.u64.wrap (at_ + 1)) seed Y) 153 (0, 0)) ∧ w.grownBy w' (some g) := by
  unfold tape_Take.bit at h
  by_cases c0 : 0 ≤ IntKind.u64.wrap (Int.tdiv at_ 8)
  · rw [if_pos c0] at h
    by_cases c1 : IntKind.u64.wrap (Int.tdiv at_ 8) < (l.length : Int)
    · rw [if_pos c1] at h
      obtain rfl := Option.some.inj h
      have BG := Aside0.mk hb0
      have HC := Aside0.mk hC
      have HG := Aside0.mk (Ar.grown_refl w g)
      have C0 := Aside0.mk c0
      have C1 := Aside0.mk c1
      clear hb0 hC h c0 c1
      go_enter Tryz.func96, Tryz.ntmps96
      go_wp2
      replace BG := Aside0.mk (blk_drew BG.out)
      replace HG := Aside0.mk (Ar.grown_drew HG.out)
      replace HC := Aside0.mk (Kd.C_drew HC.out)
      refine start_ (n := 17) (S := fun w' => w'.heap[g]? = some (.cells (rdC (.slice A l.length c) bits dom at_ seed Y) 153 (0, 0))) (ds := []) #[false, false, false, false, false, false, false, false, false, false, false, false, false, false, false, false, false] (by kernel_rfl) rfl rfl (BG.out) (fun hHeld => ?_)
      generalize w.drew = w3 at BG HG HC hHeld ⊢
      refine qP 0 (some 4) (qt 17 1) ?_
      refine qP 1 (some 5) (qt 17 3) ?_
      refine qP 2 (some 6) (qt 17 7) ?_
      refine qP 3 (some 7) (qt 17 15) ?_
      refine qP 4 (some 8) (qt 17 31) ?_
      refine qP 8 (some 12) (qt 17 287) ?_
      refine qP 9 (some 13) (qt 17 799) ?_
      refine qP 10 (some 14) (qt 17 1823) ?_
      refine qP 11 (some 15) (qt 17 3871) ?_
      refine take_ (i := 5) (N := some 9) (v := ?_) (a' := ?_) (qt 17 3903) rfl rfl (by kernel_rfl) (fun _ _ _ h => h) (Or.inl ⟨by rfl, ?_⟩) hHeld ?_ ?_
      rotate_left
      · intro w' s0
        refine (Ar.cload_run rfl Tryz.underlying24 rfl rfl (Ar.blk_at s0 (rdC_36 _ _ _ _ _ _))).trans ?_; with_reducible rfl
      rotate_left
      · simp only [Act.put, zA_, zB_, zC_, i64_w, i32_w]
        rfl
      refine qP 6 (some 10) (qt 17 3967) ?_
      refine take_ (i := 12) (N := some 16) (v := ?_) (a' := ?_) (qt 17 8063) rfl rfl (by kernel_rfl) (fun _ _ _ h => h) (Or.inl ⟨by rfl, ?_⟩) hHeld ?_ ?_
      rotate_left
      · intro w' s0
        refine (Ar.cload_run rfl Tryz.underlying24 rfl rfl (Ar.blk_at s0 (rdC_36 _ _ _ _ _ _))).trans ?_; with_reducible rfl
      rotate_left
      · simp only [Act.put, zA_, zB_, zC_, i64_w, i32_w]
        rfl
      refine qP 13 (some 17) (qt 17 16255) ?_
      refine qP 14 (some 18) (qt 17 32639) ?_
      refine one_ (i := 7) (N := some 11) (qt 17 32767) rfl rfl (by kernel_rfl) (by decide) (fun K hK => ?_)
      refine goes_ Tryz.func115 (by kernel_rfl) rfl #[.pointer (some ⟨g, 0, none⟩), .int .u64 (IntKind.u64.wrap (Int.tdiv at_ 8))] (by rfl) rfl rfl (by simp only [List.map_toArray, List.map_cons, List.map_nil]; rfl) ?_
      with_reducible refine (tape_octet g A c l bits dom at_ seed Y (IntKind.u64.wrap (Int.tdiv at_ 8)) _ BG.out HC.out C0.out C1.out).mono ?_
      rintro e w6 ⟨rfl, hw⟩
      refine ⟨_, rfl, ?_⟩
      subst hw
      refine hK.out _ _ (BG.out) (fun hHeld => ?_)
      clear hK K
      refine norm_ (a' := ?_) ?_ ?_
      rotate_left
      · show Act.put _ (some 11) _ = _
        simp only [Act.put, zA_, zB_, zC_, i64_w, i32_w]
        rfl
      refine qP 15 (some 19) (qt 17 65535) ?_
      refine qP 16 (some 3) (qt 17 131071) ?_
      refine done_ (by kernel_rfl) ?_
      go_wp2_with (first | ((with_reducible refine qd 24 ?_); refine Ar.cload_event rfl (T := 24) rfl Tryz.underlying24 rfl (A := ⟨g, 36, none⟩) rfl (v := .int .u64 at_) (Ar.blk_at BG.out (rdC_36 _ _ _ _ _ _)) ?_) | ((with_reducible refine gate_store (t := 24) (p := 28) rfl ?_); refine Ar.cstore_event rfl rfl rfl (k := .u64) (by kernel_rfl) (g := g) (c := 36) rfl (z := IntKind.u64.wrap (at_ + 1)) qg BG.out (z0 := at_) (rdC_36 _ _ _ _ _ _) ?_; intro w4 hbk_ hg; rw [rdC_set] at hbk_; replace HG := Aside0.mk (Ar.grown_then HG.out hg (fun q_ e_ => .inl (Option.some.inj e_).symm)); replace BG := Aside0.mk (hbk_); clear hbk_ hg HC))
      go_ret
      exact ⟨rfl, BG.out, HG.out⟩
    · rw [if_neg c1] at h
      exact absurd h (by simp)
  · rw [if_neg c0] at h
    exact absurd h (by simp)
theorem tape_build (w : World) {D : Array Value} (h : D.size = 37) : (Instr.build 153 #[(0, .agg D)]).run Tryz.prog w = .ok (.agg (D ++ (Ar.cells .u8 32 (List.replicate 32 0) ++ #[.int .u64 0, .bool false]))) w := by
  refine run_build (P := Tryz.prog) w 153 _ _ ?_
  rw [Ar.built_struct (Z := ((#[.int .i64 0, .slice none 0 0, .int .u64 0] ++ (Ar.cells .u8 32 (List.replicate 32 0) ++ #[.int .u64 0, .int .u64 0])) ++ (Ar.cells .u8 32 (List.replicate 32 0) ++ #[.int .u64 0, .bool false]))) (pl := [(0, 37), (37, 32), (69, 1), (70, 1)]) _ (by kernel_rfl) Tryz.underlying153 (by kernel_rfl)]
  refine (Ar.fill_first (D := D) (by rw [h]; rfl) (by rw [h]; simp [Ar.cells_size])).trans ?_
  rfl
theorem rdC_app (v : Value) (bits dom at_ : Int) (seed : List Int) (Y : Array Value) : rdC v bits dom at_ seed Y = (#[.int .i64 1, v, .int .u64 bits] ++ (Ar.cells .u8 32 seed ++ #[.int .u64 dom, .int .u64 at_])) ++ Y := by
  unfold rdC
  simp [Array.append_assoc]
theorem rdC_in (v : Value) (bits dom at_ : Int) (seed : List Int) (Y : Array Value) : ∀ (j : Nat) (u : Value), ((#[.int .i64 1, v, .int .u64 bits] ++ (Ar.cells .u8 32 seed ++ #[.int .u64 dom, .int .u64 at_])) : Array Value).toList[j]? = some u → (rdC v bits dom at_ seed Y).toList[0 + j]? = some u := by
  rw [rdC_app]
  exact Ar.in_first
def tape_Take.l0 : Nat → List Int → Int → Int → Int → Int → Option (Int × Int)
  | 0, _, _, _, _, _ => none
  | k + 1, l, n, at_, x, i => if i < n then (tape_Take.bit l at_).bind fun b => tape_Take.l0 k l n (IntKind.u64.wrap (at_ + 1)) (Go.bits .or .u64 (IntKind.u64.wrap (x * 2)) b) (wrap64 (i + 1)) else some (x, at_)
def tape_Take.f (k : Nat) (a0_0 : Int) (l0_1 : List Int) (a0_2 : Int) (a0_3 : List Int) (a0_4 a0_5 a1 : Int) : Option (Int × Int × List Int × Int × List Int × Int × Int × Int) :=
  (tape_Right.f a0_0 l0_1 a0_2 a0_3 a0_4 a0_5).bind fun ok => if ok = true then (if a1 < 0 then some (0, a0_0, l0_1, a0_2, a0_3, a0_4, a0_5, 1) else if a1 > 64 then some (0, a0_0, l0_1, a0_2, a0_3, a0_4, a0_5, 1) else (tape_Left.f a0_0 l0_1 a0_2 a0_3 a0_4 a0_5).bind fun m => if IntKind.u64.wrap a1 > m then some (0, a0_0, l0_1, a0_2, a0_3, a0_4, a0_5, 8) else if a0_0 = 1 then (tape_Take.l0 k l0_1 a1 a0_5 0 0).bind fun p => some (p.1, a0_0, l0_1, a0_2, a0_3, a0_4, p.2, 0) else none) else some (0, a0_0, l0_1, a0_2, a0_3, a0_4, a0_5, 1)
theorem tape_Take.mono_l : ∀ k l n at_ x i, LeO (tape_Take.l0 k l n at_ x i) (tape_Take.l0 (k + 1) l n at_ x i)
  | 0, _, _, _, _, _ => fun r h => by simp [tape_Take.l0] at h
  | k + 1, _, _, _, _, _ => by
    unfold tape_Take.l0
    exact LeO.ite (LeO.bind (LeO.refl _) (fun _ => tape_Take.mono_l k _ _ _ _ _)) (LeO.refl _)
theorem tape_Take.mono : ∀ a0 a1 a2 a3 a4 a5 a6 k, LeO (tape_Take.f k a0 a1 a2 a3 a4 a5 a6) (tape_Take.f (k + 1) a0 a1 a2 a3 a4 a5 a6) := fun a0 a1 a2 a3 a4 a5 a6 k => by
  unfold tape_Take.f
  exact LeO.bind (LeO.refl _) (fun _ => LeO.ite (LeO.ite (LeO.refl _) (LeO.ite (LeO.refl _) (LeO.bind (LeO.refl _) (fun _ => LeO.ite (LeO.refl _) (LeO.ite (LeO.bind (tape_Take.mono_l _ _ _ _ _ _) (fun _ => LeO.refl _)) (LeO.none _)))))) (LeO.refl _))
set_option maxHeartbeats 8000000 in
set_option maxRecDepth 100000 in
theorem tape_Take.calls (k : Nat) (a0_0 : Int) (P0_1_ : Nat → Prop) (A0_1 : Option Addr) (c0_1 : Nat) (l0_1 : List Int) (a0_2 : Int) (a0_3 : List Int) (a0_4 : Int) (a0_5 : Int) (a1 : Int) (r1 : Int) (r2 : Int) (r3 : List Int) (r4 : Int) (r5 : List Int) (r6 : Int) (r7 : Int) (r8 : Int) (w : World) (hs0_1 : Kd.V (Kd.int .u8) 5 w w.heap.size (fun k_ => P0_1_ k_) (.slice A0_1 l0_1.length c0_1) l0_1) (h : tape_Take.f k a0_0 l0_1 a0_2 a0_3 a0_4 a0_5 a1 = some (r1, r2, r3, r4, r5, r6, r7, r8)) :
    Calls Tryz.prog 69 #[.agg (#[.int .i64 a0_0, .slice A0_1 l0_1.length c0_1, .int .u64 a0_2] ++ (Ar.cells .u8 32 a0_3 ++ #[.int .u64 a0_4, .int .u64 a0_5])), .int .i64 a1] w fun e w' => ∃ v2_ : Value, e = .returned (.tuple #[.int .u64 r1, .agg (#[.int .i64 r2, v2_, .int .u64 r4] ++ (Ar.cells .u8 32 r5 ++ #[.int .u64 r6, .int .u64 r7])), .int .i64 r8]) ∧ Kd.V (Kd.int .u8) 5 w' w.heap.size (fun k_ => (P0_1_ k_ ∨ w.heap.size ≤ k_)) v2_ r3 ∧ Below w.heap.size w w' := by
  have hu39 := Tryz.underlying39
  obtain ⟨ok, hA, h⟩ := Option.bind_eq_some_iff.mp h
  have HA := Aside0.mk hA
  have HS := Aside0.mk (show Kd.V (Kd.int .u8) 5 w w.heap.size (fun k_ => (P0_1_ k_ ∨ w.heap.size ≤ k_)) (.slice A0_1 l0_1.length c0_1) l0_1 from Kd.V_mono hs0_1 (fun k_ hk => .inl hk))
  have HB := Aside0.mk (Below.refl w.heap.size w)
  clear hA hs0_1
  cases ok with
  | false =>
    rw [if_neg (by simp)] at h
    simp only [Option.some.injEq, Prod.mk.injEq] at h
    obtain ⟨rfl, rfl, rfl, rfl, rfl, rfl, rfl, rfl⟩ := h
    go_enter Tryz.func69, Tryz.ntmps69
    go_wp2_with (first | ((with_reducible refine qd 2 ?_); refine qH (N := 2) (cs := (#[.int .i64 a0_0, .slice A0_1 l0_1.length c0_1, .int .u64 a0_2] ++ (Ar.cells .u8 32 a0_3 ++ #[.int .u64 a0_4, .int .u64 a0_5]))) (t := 39) ?_; intro g2 hg w1 hbox hb; replace HS := Aside0.mk (Kd.V_below (Kd.V_elderB HS.out g2 (Nat.le_of_eq hg.symm)) hb); have B2 := Aside0.mk (hbox); have GEg2 := Aside0.mk ((by rw [hg]; exact below_size HB.out : w.heap.size ≤ g2)); replace HB := Aside0.mk (below_step HB.out hb); clear hb hg hbox) | ((with_reducible refine qd 5 ?_); refine box_event ?hg (N := 5) ?hd (cs := (#[.int .i64 0, .slice none 0 0, .int .u64 0] ++ (Ar.cells .u8 32 (List.replicate 32 0) ++ #[.int .u64 0, .int .u64 0]))) (t := 39) ?hr ?_; (case hd => rfl); (case hg => rfl); (case hr => exact Ar.galloc_run rfl (by kernel_rfl)); intro g5 hg w2 hbox hb; replace HS := Aside0.mk (Kd.V_below (Kd.V_elderB HS.out g5 (Nat.le_of_eq hg.symm)) hb); have N25 := Aside0.mk ((by rw [hg]; exact Nat.ne_of_lt (blk_lt B2.out) : g2 ≠ g5)); replace B2 := Aside0.mk (blk_below B2.out hb); have B5 := Aside0.mk (hbox); have GEg5 := Aside0.mk ((by rw [hg]; exact below_size HB.out : w.heap.size ≤ g5)); replace HB := Aside0.mk (below_step HB.out hb); clear hb hg hbox) | ((with_reducible refine qd 9 ?_); (try (refine gate_guard (by rfl) ?_; dsimp only)); refine Ar.gload_event rfl (T := 39) rfl Tryz.underlying39 rfl (D := (#[.int .i64 a0_0, .slice A0_1 l0_1.length c0_1, .int .u64 a0_2] ++ (Ar.cells .u8 32 a0_3 ++ #[.int .u64 a0_4, .int .u64 a0_5]))) qz (A := ⟨g2, 0, none⟩) rfl (Ar.blk_part B2.out Ar.in_whole) ?_) | ((with_reducible refine gate_callee (f := 66) rfl ?_); refine goesL_ (some 10) rfl rfl Tryz.func66 (by kernel_rfl) rfl #[.agg (#[.int .i64 a0_0, .slice A0_1 l0_1.length c0_1, .int .u64 a0_2] ++ (Ar.cells .u8 32 a0_3 ++ #[.int .u64 a0_4, .int .u64 a0_5]))] rfl (by (try simp only [List.map_toArray, List.map_cons, List.map_nil]); first | done | rfl) ?_; refine (tape_Right.calls a0_0 A0_1 c0_1 l0_1 a0_2 a0_3 a0_4 a0_5 false _ (Kd.V_reads' HS.out).2.2 (Kd.V_reads' HS.out).2.1 HA.out).mono ?_; rintro e w3 ⟨rfl, hb⟩; refine ⟨_, rfl, ?_⟩; replace HS := Aside0.mk (Kd.V_grown HS.out (grown_of_below hb none) (fun _ _ e_ => by cases e_)); replace B2 := Aside0.mk (blk_below B2.out hb); replace B5 := Aside0.mk (blk_below B5.out hb); replace HB := Aside0.mk (below_step HB.out hb); clear hb))
    replace HS := Aside0.mk (Kd.V_drew HS.out)
    replace B2 := Aside0.mk (blk_drew B2.out)
    replace B5 := Aside0.mk (blk_drew B5.out)
    replace HB := Aside0.mk (below_drew1 HB.out)
    refine start_ (n := 4) (S := fun w' => w'.heap[g2]? = some (.cells (#[.int .i64 a0_0, .slice A0_1 l0_1.length c0_1, .int .u64 a0_2] ++ (Ar.cells .u8 32 a0_3 ++ #[.int .u64 a0_4, .int .u64 a0_5])) 39 (0, 0))) (ds := [2]) #[false, false, false, false] (by kernel_rfl) rfl rfl (B2.out) (fun hHeld => ?_)
    generalize w3.drew = w6 at HS B2 B5 HB hHeld ⊢
    refine qP 1 (some 4) (qt 4 2) ?_
    refine take_ (i := 0) (N := some 20) (v := ?_) (a' := ?_) (qt 4 3) rfl rfl (by kernel_rfl) (fun _ _ _ h => h) (Or.inl ⟨by rfl, ?_⟩) hHeld ?_ ?_
    rotate_left
    · intro w' s0
      refine (Ar.gload_run rfl Tryz.underlying39 rfl (D := (#[.int .i64 a0_0, .slice A0_1 l0_1.length c0_1, .int .u64 a0_2] ++ (Ar.cells .u8 32 a0_3 ++ #[.int .u64 a0_4, .int .u64 a0_5]))) qz rfl (Ar.blk_part s0 Ar.in_whole)).trans ?_; with_reducible rfl
    rotate_left
    · simp only [Act.put, zA_, zB_, zC_, i64_w, i32_w]
      rfl
    refine last_ (i := 2) (N := none) (qt 4 7) rfl rfl (by kernel_rfl) (by decide) (fun K hK => ?_)
    refine Ar.gstore_step (by rfl) rfl rfl (D := (#[.int .i64 a0_0, .slice A0_1 l0_1.length c0_1, .int .u64 a0_2] ++ (Ar.cells .u8 32 a0_3 ++ #[.int .u64 a0_4, .int .u64 a0_5]))) qz (g := g5) rfl qg B5.out (by simp [Ar.cells_size]) (by repeat (first | (with_reducible refine Ar.all_app ?_ ?_) | (with_reducible exact Ar.cells_one _ _ _) | (focus (simp [Value.oneCell']; done)) | rfl)) ?_
    intro w7 hbk_ hg
    replace HS := Aside0.mk (Kd.V_grown HS.out hg (fun k_ hk_ e_ => hk_.2 (Option.some.inj e_)))
    replace B2 := Aside0.mk (blk_grown B2.out hg (fun e_ => N25.out (Option.some.inj e_)))
    replace B5 := Aside0.mk (hbk_)
    replace HB := Aside0.mk (Below.grown HB.out hg (below_size HB.out) (fun _ e_ => by cases e_; exact GEg5.out))
    clear hbk_ hg
    refine hK.out _ _ ?_
    clear hK K
    refine qP 3 (some 6) (qt 4 15) ?_
    refine done_ (by kernel_rfl) ?_
    try go_wp2
    refine bodyPost_ret (results_list (rs := [.tmp 4, .cell 5 39, .tmp 6]) rfl (by simp) (.tmp (.cell g5 39 (#[.int .i64 a0_0, .slice A0_1 l0_1.length c0_1, .int .u64 a0_2] ++ (Ar.cells .u8 32 a0_3 ++ #[.int .u64 a0_4, .int .u64 a0_5])) (0, 0) _ rfl B5.out Tryz.underlying39 rfl qz (.tmp .nil)))) rfl ?_
    exact ⟨_, rfl, Kd.V_mono HS.out (fun _ hk => hk.1.1), HB.out⟩
  | true =>
    rw [if_pos rfl] at h
    by_cases c1 : a1 < 0
    · rw [if_pos c1] at h
      simp only [Option.some.injEq, Prod.mk.injEq] at h
      obtain ⟨rfl, rfl, rfl, rfl, rfl, rfl, rfl, rfl⟩ := h
      have c1b := decide_eq_true c1
      clear c1
      go_enter Tryz.func69, Tryz.ntmps69
      go_wp2_with (first | ((with_reducible refine qd 2 ?_); refine qH (N := 2) (cs := (#[.int .i64 a0_0, .slice A0_1 l0_1.length c0_1, .int .u64 a0_2] ++ (Ar.cells .u8 32 a0_3 ++ #[.int .u64 a0_4, .int .u64 a0_5]))) (t := 39) ?_; intro g2 hg w1 hbox hb; replace HS := Aside0.mk (Kd.V_below (Kd.V_elderB HS.out g2 (Nat.le_of_eq hg.symm)) hb); have B2 := Aside0.mk (hbox); have GEg2 := Aside0.mk ((by rw [hg]; exact below_size HB.out : w.heap.size ≤ g2)); replace HB := Aside0.mk (below_step HB.out hb); clear hb hg hbox) | ((with_reducible refine qd 5 ?_); refine box_event ?hg (N := 5) ?hd (cs := (#[.int .i64 0, .slice none 0 0, .int .u64 0] ++ (Ar.cells .u8 32 (List.replicate 32 0) ++ #[.int .u64 0, .int .u64 0]))) (t := 39) ?hr ?_; (case hd => rfl); (case hg => rfl); (case hr => exact Ar.galloc_run rfl (by kernel_rfl)); intro g5 hg w2 hbox hb; replace HS := Aside0.mk (Kd.V_below (Kd.V_elderB HS.out g5 (Nat.le_of_eq hg.symm)) hb); have N25 := Aside0.mk ((by rw [hg]; exact Nat.ne_of_lt (blk_lt B2.out) : g2 ≠ g5)); replace B2 := Aside0.mk (blk_below B2.out hb); have B5 := Aside0.mk (hbox); have GEg5 := Aside0.mk ((by rw [hg]; exact below_size HB.out : w.heap.size ≤ g5)); replace HB := Aside0.mk (below_step HB.out hb); clear hb hg hbox) | ((with_reducible refine qd 9 ?_); (try (refine gate_guard (by rfl) ?_; dsimp only)); refine Ar.gload_event rfl (T := 39) rfl Tryz.underlying39 rfl (D := (#[.int .i64 a0_0, .slice A0_1 l0_1.length c0_1, .int .u64 a0_2] ++ (Ar.cells .u8 32 a0_3 ++ #[.int .u64 a0_4, .int .u64 a0_5]))) qz (A := ⟨g2, 0, none⟩) rfl (Ar.blk_part B2.out Ar.in_whole) ?_) | ((with_reducible refine gate_callee (f := 66) rfl ?_); refine goesL_ (some 10) rfl rfl Tryz.func66 (by kernel_rfl) rfl #[.agg (#[.int .i64 a0_0, .slice A0_1 l0_1.length c0_1, .int .u64 a0_2] ++ (Ar.cells .u8 32 a0_3 ++ #[.int .u64 a0_4, .int .u64 a0_5]))] rfl (by (try simp only [List.map_toArray, List.map_cons, List.map_nil]); first | done | rfl) ?_; refine (tape_Right.calls a0_0 A0_1 c0_1 l0_1 a0_2 a0_3 a0_4 a0_5 true _ (Kd.V_reads' HS.out).2.2 (Kd.V_reads' HS.out).2.1 HA.out).mono ?_; rintro e w3 ⟨rfl, hb⟩; refine ⟨_, rfl, ?_⟩; replace HS := Aside0.mk (Kd.V_grown HS.out (grown_of_below hb none) (fun _ _ e_ => by cases e_)); replace B2 := Aside0.mk (blk_below B2.out hb); replace B5 := Aside0.mk (blk_below B5.out hb); replace HB := Aside0.mk (below_step HB.out hb); clear hb))
      replace HS := Aside0.mk (Kd.V_drew HS.out)
      replace B2 := Aside0.mk (blk_drew B2.out)
      replace B5 := Aside0.mk (blk_drew B5.out)
      replace HB := Aside0.mk (below_drew1 HB.out)
      refine start_ (n := 4) (S := fun w' => w'.heap[g2]? = some (.cells (#[.int .i64 a0_0, .slice A0_1 l0_1.length c0_1, .int .u64 a0_2] ++ (Ar.cells .u8 32 a0_3 ++ #[.int .u64 a0_4, .int .u64 a0_5])) 39 (0, 0))) (ds := [2]) #[false, false, false, false] (by kernel_rfl) rfl rfl (B2.out) (fun hHeld => ?_)
      generalize w3.drew = w6 at HS B2 B5 HB hHeld ⊢
      refine qP 1 (some 4) (qt 4 2) ?_
      refine take_ (i := 0) (N := some 20) (v := ?_) (a' := ?_) (qt 4 3) rfl rfl (by kernel_rfl) (fun _ _ _ h => h) (Or.inl ⟨by rfl, ?_⟩) hHeld ?_ ?_
      rotate_left
      · intro w' s0
        refine (Ar.gload_run rfl Tryz.underlying39 rfl (D := (#[.int .i64 a0_0, .slice A0_1 l0_1.length c0_1, .int .u64 a0_2] ++ (Ar.cells .u8 32 a0_3 ++ #[.int .u64 a0_4, .int .u64 a0_5]))) qz rfl (Ar.blk_part s0 Ar.in_whole)).trans ?_; with_reducible rfl
      rotate_left
      · simp only [Act.put, zA_, zB_, zC_, i64_w, i32_w]
        rfl
      refine last_ (i := 2) (N := none) (qt 4 7) rfl rfl (by kernel_rfl) (by decide) (fun K hK => ?_)
      refine Ar.gstore_step (by rfl) rfl rfl (D := (#[.int .i64 a0_0, .slice A0_1 l0_1.length c0_1, .int .u64 a0_2] ++ (Ar.cells .u8 32 a0_3 ++ #[.int .u64 a0_4, .int .u64 a0_5]))) qz (g := g5) rfl qg B5.out (by simp [Ar.cells_size]) (by repeat (first | (with_reducible refine Ar.all_app ?_ ?_) | (with_reducible exact Ar.cells_one _ _ _) | (focus (simp [Value.oneCell']; done)) | rfl)) ?_
      intro w7 hbk_ hg
      replace HS := Aside0.mk (Kd.V_grown HS.out hg (fun k_ hk_ e_ => hk_.2 (Option.some.inj e_)))
      replace B2 := Aside0.mk (blk_grown B2.out hg (fun e_ => N25.out (Option.some.inj e_)))
      replace B5 := Aside0.mk (hbk_)
      replace HB := Aside0.mk (Below.grown HB.out hg (below_size HB.out) (fun _ e_ => by cases e_; exact GEg5.out))
      clear hbk_ hg
      refine hK.out _ _ ?_
      clear hK K
      refine qP 3 (some 6) (qt 4 15) ?_
      refine done_ (by kernel_rfl) ?_
      try go_wp2
      refine bodyPost_ret (results_list (rs := [.tmp 4, .cell 5 39, .tmp 6]) rfl (by simp) (.tmp (.cell g5 39 (#[.int .i64 a0_0, .slice A0_1 l0_1.length c0_1, .int .u64 a0_2] ++ (Ar.cells .u8 32 a0_3 ++ #[.int .u64 a0_4, .int .u64 a0_5])) (0, 0) _ rfl B5.out Tryz.underlying39 rfl qz (.tmp .nil)))) rfl ?_
      exact ⟨_, rfl, Kd.V_mono HS.out (fun _ hk => hk.1.1), HB.out⟩
    · rw [if_neg c1] at h
      have c1b := decide_eq_false c1
      clear c1
      by_cases c2 : a1 > 64
      · rw [if_pos c2] at h
        simp only [Option.some.injEq, Prod.mk.injEq] at h
        obtain ⟨rfl, rfl, rfl, rfl, rfl, rfl, rfl, rfl⟩ := h
        have c2b := decide_eq_true c2
        have c2c : decide (64 < a1) = true := c2b
        clear c2
        go_enter Tryz.func69, Tryz.ntmps69
        go_wp2_with (first | ((with_reducible refine qd 2 ?_); refine qH (N := 2) (cs := (#[.int .i64 a0_0, .slice A0_1 l0_1.length c0_1, .int .u64 a0_2] ++ (Ar.cells .u8 32 a0_3 ++ #[.int .u64 a0_4, .int .u64 a0_5]))) (t := 39) ?_; intro g2 hg w1 hbox hb; replace HS := Aside0.mk (Kd.V_below (Kd.V_elderB HS.out g2 (Nat.le_of_eq hg.symm)) hb); have B2 := Aside0.mk (hbox); have GEg2 := Aside0.mk ((by rw [hg]; exact below_size HB.out : w.heap.size ≤ g2)); replace HB := Aside0.mk (below_step HB.out hb); clear hb hg hbox) | ((with_reducible refine qd 5 ?_); refine box_event ?hg (N := 5) ?hd (cs := (#[.int .i64 0, .slice none 0 0, .int .u64 0] ++ (Ar.cells .u8 32 (List.replicate 32 0) ++ #[.int .u64 0, .int .u64 0]))) (t := 39) ?hr ?_; (case hd => rfl); (case hg => rfl); (case hr => exact Ar.galloc_run rfl (by kernel_rfl)); intro g5 hg w2 hbox hb; replace HS := Aside0.mk (Kd.V_below (Kd.V_elderB HS.out g5 (Nat.le_of_eq hg.symm)) hb); have N25 := Aside0.mk ((by rw [hg]; exact Nat.ne_of_lt (blk_lt B2.out) : g2 ≠ g5)); replace B2 := Aside0.mk (blk_below B2.out hb); have B5 := Aside0.mk (hbox); have GEg5 := Aside0.mk ((by rw [hg]; exact below_size HB.out : w.heap.size ≤ g5)); replace HB := Aside0.mk (below_step HB.out hb); clear hb hg hbox) | ((with_reducible refine qd 9 ?_); (try (refine gate_guard (by rfl) ?_; dsimp only)); refine Ar.gload_event rfl (T := 39) rfl Tryz.underlying39 rfl (D := (#[.int .i64 a0_0, .slice A0_1 l0_1.length c0_1, .int .u64 a0_2] ++ (Ar.cells .u8 32 a0_3 ++ #[.int .u64 a0_4, .int .u64 a0_5]))) qz (A := ⟨g2, 0, none⟩) rfl (Ar.blk_part B2.out Ar.in_whole) ?_) | ((with_reducible refine gate_callee (f := 66) rfl ?_); refine goesL_ (some 10) rfl rfl Tryz.func66 (by kernel_rfl) rfl #[.agg (#[.int .i64 a0_0, .slice A0_1 l0_1.length c0_1, .int .u64 a0_2] ++ (Ar.cells .u8 32 a0_3 ++ #[.int .u64 a0_4, .int .u64 a0_5]))] rfl (by (try simp only [List.map_toArray, List.map_cons, List.map_nil]); first | done | rfl) ?_; refine (tape_Right.calls a0_0 A0_1 c0_1 l0_1 a0_2 a0_3 a0_4 a0_5 true _ (Kd.V_reads' HS.out).2.2 (Kd.V_reads' HS.out).2.1 HA.out).mono ?_; rintro e w3 ⟨rfl, hb⟩; refine ⟨_, rfl, ?_⟩; replace HS := Aside0.mk (Kd.V_grown HS.out (grown_of_below hb none) (fun _ _ e_ => by cases e_)); replace B2 := Aside0.mk (blk_below B2.out hb); replace B5 := Aside0.mk (blk_below B5.out hb); replace HB := Aside0.mk (below_step HB.out hb); clear hb))
        replace HS := Aside0.mk (Kd.V_drew HS.out)
        replace B2 := Aside0.mk (blk_drew B2.out)
        replace B5 := Aside0.mk (blk_drew B5.out)
        replace HB := Aside0.mk (below_drew1 HB.out)
        refine start_ (n := 4) (S := fun w' => w'.heap[g2]? = some (.cells (#[.int .i64 a0_0, .slice A0_1 l0_1.length c0_1, .int .u64 a0_2] ++ (Ar.cells .u8 32 a0_3 ++ #[.int .u64 a0_4, .int .u64 a0_5])) 39 (0, 0))) (ds := [2]) #[false, false, false, false] (by kernel_rfl) rfl rfl (B2.out) (fun hHeld => ?_)
        generalize w3.drew = w6 at HS B2 B5 HB hHeld ⊢
        refine qP 1 (some 4) (qt 4 2) ?_
        refine take_ (i := 0) (N := some 20) (v := ?_) (a' := ?_) (qt 4 3) rfl rfl (by kernel_rfl) (fun _ _ _ h => h) (Or.inl ⟨by rfl, ?_⟩) hHeld ?_ ?_
        rotate_left
        · intro w' s0
          refine (Ar.gload_run rfl Tryz.underlying39 rfl (D := (#[.int .i64 a0_0, .slice A0_1 l0_1.length c0_1, .int .u64 a0_2] ++ (Ar.cells .u8 32 a0_3 ++ #[.int .u64 a0_4, .int .u64 a0_5]))) qz rfl (Ar.blk_part s0 Ar.in_whole)).trans ?_; with_reducible rfl
        rotate_left
        · simp only [Act.put, zA_, zB_, zC_, i64_w, i32_w]
          rfl
        refine last_ (i := 2) (N := none) (qt 4 7) rfl rfl (by kernel_rfl) (by decide) (fun K hK => ?_)
        refine Ar.gstore_step (by rfl) rfl rfl (D := (#[.int .i64 a0_0, .slice A0_1 l0_1.length c0_1, .int .u64 a0_2] ++ (Ar.cells .u8 32 a0_3 ++ #[.int .u64 a0_4, .int .u64 a0_5]))) qz (g := g5) rfl qg B5.out (by simp [Ar.cells_size]) (by repeat (first | (with_reducible refine Ar.all_app ?_ ?_) | (with_reducible exact Ar.cells_one _ _ _) | (focus (simp [Value.oneCell']; done)) | rfl)) ?_
        intro w7 hbk_ hg
        replace HS := Aside0.mk (Kd.V_grown HS.out hg (fun k_ hk_ e_ => hk_.2 (Option.some.inj e_)))
        replace B2 := Aside0.mk (blk_grown B2.out hg (fun e_ => N25.out (Option.some.inj e_)))
        replace B5 := Aside0.mk (hbk_)
        replace HB := Aside0.mk (Below.grown HB.out hg (below_size HB.out) (fun _ e_ => by cases e_; exact GEg5.out))
        clear hbk_ hg
        refine hK.out _ _ ?_
        clear hK K
        refine qP 3 (some 6) (qt 4 15) ?_
        refine done_ (by kernel_rfl) ?_
        try go_wp2
        refine bodyPost_ret (results_list (rs := [.tmp 4, .cell 5 39, .tmp 6]) rfl (by simp) (.tmp (.cell g5 39 (#[.int .i64 a0_0, .slice A0_1 l0_1.length c0_1, .int .u64 a0_2] ++ (Ar.cells .u8 32 a0_3 ++ #[.int .u64 a0_4, .int .u64 a0_5])) (0, 0) _ rfl B5.out Tryz.underlying39 rfl qz (.tmp .nil)))) rfl ?_
        exact ⟨_, rfl, Kd.V_mono HS.out (fun _ hk => hk.1.1), HB.out⟩
      · rw [if_neg c2] at h
        have c2b := decide_eq_false c2
        have c2c : decide (64 < a1) = false := c2b
        clear c2
        obtain ⟨m, hM, h⟩ := Option.bind_eq_some_iff.mp h
        have HM := Aside0.mk hM
        clear hM
        by_cases c3 : IntKind.u64.wrap a1 > m
        · rw [if_pos c3] at h
          simp only [Option.some.injEq, Prod.mk.injEq] at h
          obtain ⟨rfl, rfl, rfl, rfl, rfl, rfl, rfl, rfl⟩ := h
          have c3b := decide_eq_true c3
          have c3c : decide (m < IntKind.u64.wrap a1) = true := c3b
          clear c3
          go_enter Tryz.func69, Tryz.ntmps69
          go_wp2_with (first | ((with_reducible refine qd 2 ?_); refine qH (N := 2) (cs := (#[.int .i64 a0_0, .slice A0_1 l0_1.length c0_1, .int .u64 a0_2] ++ (Ar.cells .u8 32 a0_3 ++ #[.int .u64 a0_4, .int .u64 a0_5]))) (t := 39) ?_; intro g2 hg w1 hbox hb; replace HS := Aside0.mk (Kd.V_below (Kd.V_elderB HS.out g2 (Nat.le_of_eq hg.symm)) hb); have B2 := Aside0.mk (hbox); have GEg2 := Aside0.mk ((by rw [hg]; exact below_size HB.out : w.heap.size ≤ g2)); replace HB := Aside0.mk (below_step HB.out hb); clear hb hg hbox) | ((with_reducible refine qd 5 ?_); refine box_event ?hg (N := 5) ?hd (cs := (#[.int .i64 0, .slice none 0 0, .int .u64 0] ++ (Ar.cells .u8 32 (List.replicate 32 0) ++ #[.int .u64 0, .int .u64 0]))) (t := 39) ?hr ?_; (case hd => rfl); (case hg => rfl); (case hr => exact Ar.galloc_run rfl (by kernel_rfl)); intro g5 hg w2 hbox hb; replace HS := Aside0.mk (Kd.V_below (Kd.V_elderB HS.out g5 (Nat.le_of_eq hg.symm)) hb); have N25 := Aside0.mk ((by rw [hg]; exact Nat.ne_of_lt (blk_lt B2.out) : g2 ≠ g5)); replace B2 := Aside0.mk (blk_below B2.out hb); have B5 := Aside0.mk (hbox); have GEg5 := Aside0.mk ((by rw [hg]; exact below_size HB.out : w.heap.size ≤ g5)); replace HB := Aside0.mk (below_step HB.out hb); clear hb hg hbox) | ((with_reducible refine qd 9 ?_); (try (refine gate_guard (by rfl) ?_; dsimp only)); refine Ar.gload_event rfl (T := 39) rfl Tryz.underlying39 rfl (D := (#[.int .i64 a0_0, .slice A0_1 l0_1.length c0_1, .int .u64 a0_2] ++ (Ar.cells .u8 32 a0_3 ++ #[.int .u64 a0_4, .int .u64 a0_5]))) qz (A := ⟨g2, 0, none⟩) rfl (Ar.blk_part B2.out Ar.in_whole) ?_) | ((with_reducible refine gate_callee (f := 66) rfl ?_); refine goesL_ (some 10) rfl rfl Tryz.func66 (by kernel_rfl) rfl #[.agg (#[.int .i64 a0_0, .slice A0_1 l0_1.length c0_1, .int .u64 a0_2] ++ (Ar.cells .u8 32 a0_3 ++ #[.int .u64 a0_4, .int .u64 a0_5]))] rfl (by (try simp only [List.map_toArray, List.map_cons, List.map_nil]); first | done | rfl) ?_; refine (tape_Right.calls a0_0 A0_1 c0_1 l0_1 a0_2 a0_3 a0_4 a0_5 true _ (Kd.V_reads' HS.out).2.2 (Kd.V_reads' HS.out).2.1 HA.out).mono ?_; rintro e w3 ⟨rfl, hb⟩; refine ⟨_, rfl, ?_⟩; replace HS := Aside0.mk (Kd.V_grown HS.out (grown_of_below hb none) (fun _ _ e_ => by cases e_)); replace B2 := Aside0.mk (blk_below B2.out hb); replace B5 := Aside0.mk (blk_below B5.out hb); replace HB := Aside0.mk (below_step HB.out hb); clear hb) | ((with_reducible refine qd 24 ?_); (try (refine gate_guard (by rfl) ?_; dsimp only)); refine Ar.gload_event rfl (T := 39) rfl Tryz.underlying39 rfl (D := (#[.int .i64 a0_0, .slice A0_1 l0_1.length c0_1, .int .u64 a0_2] ++ (Ar.cells .u8 32 a0_3 ++ #[.int .u64 a0_4, .int .u64 a0_5]))) qz (A := ⟨g2, 0, none⟩) rfl (Ar.blk_part B2.out Ar.in_whole) ?_) | ((with_reducible refine gate_callee (f := 95) rfl ?_); refine goesL_ (some 25) rfl rfl Tryz.func95 (by kernel_rfl) rfl #[.agg (#[.int .i64 a0_0, .slice A0_1 l0_1.length c0_1, .int .u64 a0_2] ++ (Ar.cells .u8 32 a0_3 ++ #[.int .u64 a0_4, .int .u64 a0_5]))] rfl (by (try simp only [List.map_toArray, List.map_cons, List.map_nil]); first | done | rfl) ?_; refine (tape_Left.calls a0_0 A0_1 c0_1 l0_1 a0_2 a0_3 a0_4 a0_5 m _ (Kd.V_reads' HS.out).2.2 (Kd.V_reads' HS.out).2.1 HM.out).mono ?_; rintro e w3 ⟨rfl, hb⟩; refine ⟨_, rfl, ?_⟩; replace HS := Aside0.mk (Kd.V_grown HS.out (grown_of_below hb none) (fun _ _ e_ => by cases e_)); replace B2 := Aside0.mk (blk_below B2.out hb); replace B5 := Aside0.mk (blk_below B5.out hb); replace HB := Aside0.mk (below_step HB.out hb); clear hb))
          replace HS := Aside0.mk (Kd.V_drew HS.out)
          replace B2 := Aside0.mk (blk_drew B2.out)
          replace B5 := Aside0.mk (blk_drew B5.out)
          replace HB := Aside0.mk (below_drew1 HB.out)
          refine start_ (n := 4) (S := fun w' => w'.heap[g2]? = some (.cells (#[.int .i64 a0_0, .slice A0_1 l0_1.length c0_1, .int .u64 a0_2] ++ (Ar.cells .u8 32 a0_3 ++ #[.int .u64 a0_4, .int .u64 a0_5])) 39 (0, 0))) (ds := [2]) #[false, false, false, false] (by kernel_rfl) rfl rfl (B2.out) (fun hHeld => ?_)
          generalize w3.drew = w6 at HS B2 B5 HB hHeld ⊢
          refine qP 1 (some 4) (qt 4 2) ?_
          refine take_ (i := 0) (N := some 27) (v := ?_) (a' := ?_) (qt 4 3) rfl rfl (by kernel_rfl) (fun _ _ _ h => h) (Or.inl ⟨by rfl, ?_⟩) hHeld ?_ ?_
          rotate_left
          · intro w' s0
            refine (Ar.gload_run rfl Tryz.underlying39 rfl (D := (#[.int .i64 a0_0, .slice A0_1 l0_1.length c0_1, .int .u64 a0_2] ++ (Ar.cells .u8 32 a0_3 ++ #[.int .u64 a0_4, .int .u64 a0_5]))) qz rfl (Ar.blk_part s0 Ar.in_whole)).trans ?_; with_reducible rfl
          rotate_left
          · simp only [Act.put, zA_, zB_, zC_, i64_w, i32_w]
            rfl
          refine last_ (i := 2) (N := none) (qt 4 7) rfl rfl (by kernel_rfl) (by decide) (fun K hK => ?_)
          refine Ar.gstore_step (by rfl) rfl rfl (D := (#[.int .i64 a0_0, .slice A0_1 l0_1.length c0_1, .int .u64 a0_2] ++ (Ar.cells .u8 32 a0_3 ++ #[.int .u64 a0_4, .int .u64 a0_5]))) qz (g := g5) rfl qg B5.out (by simp [Ar.cells_size]) (by repeat (first | (with_reducible refine Ar.all_app ?_ ?_) | (with_reducible exact Ar.cells_one _ _ _) | (focus (simp [Value.oneCell']; done)) | rfl)) ?_
          intro w7 hbk_ hg
          replace HS := Aside0.mk (Kd.V_grown HS.out hg (fun k_ hk_ e_ => hk_.2 (Option.some.inj e_)))
          replace B2 := Aside0.mk (blk_grown B2.out hg (fun e_ => N25.out (Option.some.inj e_)))
          replace B5 := Aside0.mk (hbk_)
          replace HB := Aside0.mk (Below.grown HB.out hg (below_size HB.out) (fun _ e_ => by cases e_; exact GEg5.out))
          clear hbk_ hg
          refine hK.out _ _ ?_
          clear hK K
          refine qP 3 (some 6) (qt 4 15) ?_
          refine done_ (by kernel_rfl) ?_
          try go_wp2
          refine bodyPost_ret (results_list (rs := [.tmp 4, .cell 5 39, .tmp 6]) rfl (by simp) (.tmp (.cell g5 39 (#[.int .i64 a0_0, .slice A0_1 l0_1.length c0_1, .int .u64 a0_2] ++ (Ar.cells .u8 32 a0_3 ++ #[.int .u64 a0_4, .int .u64 a0_5])) (0, 0) _ rfl B5.out Tryz.underlying39 rfl qz (.tmp .nil)))) rfl ?_
          exact ⟨_, rfl, Kd.V_mono HS.out (fun _ hk => hk.1.1), HB.out⟩
        · rw [if_neg c3] at h
          have c3b := decide_eq_false c3
          have c3c : decide (m < IntKind.u64.wrap a1) = false := c3b
          clear c3
          by_cases c4 : a0_0 = 1
          · subst c4
            rw [if_pos rfl] at h
            obtain ⟨⟨x0, at0⟩, hL, h⟩ := Option.bind_eq_some_iff.mp h
            simp only [Option.some.injEq, Prod.mk.injEq] at h
            obtain ⟨rfl, rfl, rfl, rfl, rfl, rfl, rfl, rfl⟩ := h
            have H' := Aside0.mk hL
            clear hL
            go_enter Tryz.func69, Tryz.ntmps69
            go_wp2_with (first | ((with_reducible refine qd 2 ?_); refine qH (N := 2) (cs := (#[.int .i64 1, .slice A0_1 l0_1.length c0_1, .int .u64 a0_2] ++ (Ar.cells .u8 32 a0_3 ++ #[.int .u64 a0_4, .int .u64 a0_5]))) (t := 39) ?_; intro g2 hg w1 hbox hb; replace HS := Aside0.mk (Kd.V_below (Kd.V_elderB HS.out g2 (Nat.le_of_eq hg.symm)) hb); have B2 := Aside0.mk (hbox); have GEg2 := Aside0.mk ((by rw [hg]; exact below_size HB.out : w.heap.size ≤ g2)); replace HB := Aside0.mk (below_step HB.out hb); clear hb hg hbox) | ((with_reducible refine qd 5 ?_); refine box_event ?hg (N := 5) ?hd (cs := (#[.int .i64 0, .slice none 0 0, .int .u64 0] ++ (Ar.cells .u8 32 (List.replicate 32 0) ++ #[.int .u64 0, .int .u64 0]))) (t := 39) ?hr ?_; (case hd => rfl); (case hg => rfl); (case hr => exact Ar.galloc_run rfl (by kernel_rfl)); intro g5 hg w2 hbox hb; replace HS := Aside0.mk (Kd.V_below (Kd.V_elderB HS.out g5 (Nat.le_of_eq hg.symm)) hb); have N25 := Aside0.mk ((by rw [hg]; exact Nat.ne_of_lt (blk_lt B2.out) : g2 ≠ g5)); replace B2 := Aside0.mk (blk_below B2.out hb); have B5 := Aside0.mk (hbox); have GEg5 := Aside0.mk ((by rw [hg]; exact below_size HB.out : w.heap.size ≤ g5)); replace HB := Aside0.mk (below_step HB.out hb); clear hb hg hbox) | ((with_reducible refine qd 9 ?_); (try (refine gate_guard (by rfl) ?_; dsimp only)); refine Ar.gload_event rfl (T := 39) rfl Tryz.underlying39 rfl (D := (#[.int .i64 1, .slice A0_1 l0_1.length c0_1, .int .u64 a0_2] ++ (Ar.cells .u8 32 a0_3 ++ #[.int .u64 a0_4, .int .u64 a0_5]))) qz (A := ⟨g2, 0, none⟩) rfl (Ar.blk_part B2.out Ar.in_whole) ?_) | ((with_reducible refine gate_callee (f := 66) rfl ?_); refine goesL_ (some 10) rfl rfl Tryz.func66 (by kernel_rfl) rfl #[.agg (#[.int .i64 1, .slice A0_1 l0_1.length c0_1, .int .u64 a0_2] ++ (Ar.cells .u8 32 a0_3 ++ #[.int .u64 a0_4, .int .u64 a0_5]))] rfl (by (try simp only [List.map_toArray, List.map_cons, List.map_nil]); first | done | rfl) ?_; refine (tape_Right.calls 1 A0_1 c0_1 l0_1 a0_2 a0_3 a0_4 a0_5 true _ (Kd.V_reads' HS.out).2.2 (Kd.V_reads' HS.out).2.1 HA.out).mono ?_; rintro e w3 ⟨rfl, hb⟩; refine ⟨_, rfl, ?_⟩; replace HS := Aside0.mk (Kd.V_grown HS.out (grown_of_below hb none) (fun _ _ e_ => by cases e_)); replace B2 := Aside0.mk (blk_below B2.out hb); replace B5 := Aside0.mk (blk_below B5.out hb); replace HB := Aside0.mk (below_step HB.out hb); clear hb) | ((with_reducible refine qd 24 ?_); (try (refine gate_guard (by rfl) ?_; dsimp only)); refine Ar.gload_event rfl (T := 39) rfl Tryz.underlying39 rfl (D := (#[.int .i64 1, .slice A0_1 l0_1.length c0_1, .int .u64 a0_2] ++ (Ar.cells .u8 32 a0_3 ++ #[.int .u64 a0_4, .int .u64 a0_5]))) qz (A := ⟨g2, 0, none⟩) rfl (Ar.blk_part B2.out Ar.in_whole) ?_) | ((with_reducible refine gate_callee (f := 95) rfl ?_); refine goesL_ (some 25) rfl rfl Tryz.func95 (by kernel_rfl) rfl #[.agg (#[.int .i64 1, .slice A0_1 l0_1.length c0_1, .int .u64 a0_2] ++ (Ar.cells .u8 32 a0_3 ++ #[.int .u64 a0_4, .int .u64 a0_5]))] rfl (by (try simp only [List.map_toArray, List.map_cons, List.map_nil]); first | done | rfl) ?_; refine (tape_Left.calls 1 A0_1 c0_1 l0_1 a0_2 a0_3 a0_4 a0_5 m _ (Kd.V_reads' HS.out).2.2 (Kd.V_reads' HS.out).2.1 HM.out).mono ?_; rintro e w3 ⟨rfl, hb⟩; refine ⟨_, rfl, ?_⟩; replace HS := Aside0.mk (Kd.V_grown HS.out (grown_of_below hb none) (fun _ _ e_ => by cases e_)); replace B2 := Aside0.mk (blk_below B2.out hb); replace B5 := Aside0.mk (blk_below B5.out hb); replace HB := Aside0.mk (below_step HB.out hb); clear hb) | ((with_reducible refine qd 28 ?_); (try (refine gate_guard (by rfl) ?_; dsimp only)); refine Ar.gload_event rfl (T := 39) rfl Tryz.underlying39 rfl (D := (#[.int .i64 1, .slice A0_1 l0_1.length c0_1, .int .u64 a0_2] ++ (Ar.cells .u8 32 a0_3 ++ #[.int .u64 a0_4, .int .u64 a0_5]))) qz (A := ⟨g2, 0, none⟩) rfl (Ar.blk_part B2.out Ar.in_whole) ?_) | ((with_reducible refine qd 29 ?_); refine Ar.gbuild_event rfl (T := 153) rfl (D := (rdC (.slice A0_1 l0_1.length c0_1) a0_2 a0_4 a0_5 a0_3 (Ar.cells .u8 32 (List.replicate 32 0) ++ #[.int .u64 0, .bool false]))) (by simp only [List.map_toArray, List.map_cons, List.map_nil]; rw [rdC_app]; exact tape_build _ (by simp [Ar.cells_size])) ?_) | ((with_reducible refine qd 30 ?_); refine qH (N := 30) (cs := (rdC (.slice A0_1 l0_1.length c0_1) a0_2 a0_4 a0_5 a0_3 (Ar.cells .u8 32 (List.replicate 32 0) ++ #[.int .u64 0, .bool false]))) (t := 153) ?_; intro gx hg w4 hbox hb; replace HS := Aside0.mk (Kd.V_below (Kd.V_elderB HS.out gx (Nat.le_of_eq hg.symm)) hb); have N5X := Aside0.mk ((by rw [hg]; exact Nat.ne_of_lt (blk_lt B5.out) : g5 ≠ gx)); have NX5 := Aside0.mk ((by rw [hg]; exact Nat.ne_of_gt (blk_lt B5.out) : gx ≠ g5)); replace B5 := Aside0.mk (blk_below B5.out hb); have BX := Aside0.mk (hbox); have GEgx := Aside0.mk ((by rw [hg]; exact below_size HB.out : w.heap.size ≤ gx)); replace HB := Aside0.mk (below_step HB.out hb); clear hb hg hbox B2))
            generalize ((Ar.cells .u8 32 (List.replicate 32 0) ++ #[.int .u64 0, .bool false]) : Array Value) = Y at BX ⊢
            go_loopg [4, 32] k (fun kq v4 v32 w' => ∃ (x i at_ : Int), v4 = .int .u64 x ∧ v32 = .int .i64 i ∧ Aside0 (tape_Take.l0 kq l0_1 a1 at_ x i = some (x0, at0)) ∧ Aside0 (kq ≤ k) ∧ Aside0 (Kd.V (Kd.int .u8) 5 w' w.heap.size (fun k_ => (((P0_1_ k_ ∨ w.heap.size ≤ k_) ∧ k_ ≠ g2) ∧ k_ ≠ g5) ∧ k_ ≠ gx) (.slice A0_1 l0_1.length c0_1) l0_1) ∧ Aside0 (w'.heap[g5]? = some (.cells (#[.int .i64 0, .slice none 0 0, .int .u64 0] ++ (Ar.cells .u8 32 (List.replicate 32 0) ++ #[.int .u64 0, .int .u64 0])) 39 (0, 0))) ∧ Aside0 (w'.heap[gx]? = some (.cells (rdC (.slice A0_1 l0_1.length c0_1) a0_2 a0_4 at_ a0_3 Y) 153 (0, 0))) ∧ Aside0 (Below w.heap.size w w'))
            case atStart => exact ⟨0, 0, a0_5, rfl, rfl, H', ⟨Nat.le_refl _⟩, HS, B5, BX, HB⟩
            case round =>
              clear H' HS B5 BX HB
              obtain ⟨x, i, at_, rfl, rfl, HL, HK1, HS, B5, BX, HB⟩ := hrel
              cases gk with
              | zero => exact absurd HL.out (by simp [tape_Take.l0])
              | succ k1 =>
                have H := HL.out
                clear HL
                simp only [tape_Take.l0] at H
                by_cases c : i < a1
                · rw [if_pos c] at H
                  have cb0 : decide (i < a1) = true := decide_eq_true c
                  obtain ⟨b, hT, hR⟩ := Option.bind_eq_some_iff.mp H
                  have HT := Aside0.mk hT
                  have H' := Aside0.mk hR
                  clear H hT hR c
                  go_wp2_with (first | ((with_reducible refine gate_callee (f := 96) rfl ?_); refine goesL_ (some 37) rfl rfl Tryz.func96 (by kernel_rfl) rfl #[.pointer (some ⟨gx, 0, none⟩)] rfl (by (try simp only [List.map_toArray, List.map_cons, List.map_nil]); first | done | rfl) ?_; refine (tape_bit gx A0_1 c0_1 l0_1 a0_2 a0_4 at_ a0_3 _ b _ BX.out (Kd.V_reads' HS.out).2.2 HT.out).mono ?_; rintro e w5 ⟨rfl, hbk_, hg⟩; refine ⟨_, rfl, ?_⟩; replace HS := Aside0.mk (Kd.V_grown HS.out hg (fun k_ hk_ e_ => hk_.2 (Option.some.inj e_))); replace B5 := Aside0.mk (blk_grown B5.out hg (fun e_ => N5X.out (Option.some.inj e_))); replace HB := Aside0.mk (Below.grown HB.out hg (below_size HB.out) (fun _ e_ => by cases e_; exact GEgx.out)); replace BX := Aside0.mk (hbk_); clear hbk_ hg))
                  go_roundg k1
                  case measure => have := HK1.out; omega
                  case rel => exact ⟨_, _, _, rfl, rfl, H', ⟨by have := HK1.out; omega⟩, HS, B5, BX, HB⟩
                · rw [if_neg c] at H
                  have cb0 : decide (i < a1) = false := decide_eq_false c
                  have H := Option.some.inj H
                  simp only [Prod.mk.injEq] at H
                  obtain ⟨rfl, rfl⟩ := H
                  clear c
                  go_wp2
                  replace HS := Aside0.mk (Kd.V_drew HS.out)
                  replace BX := Aside0.mk (blk_drew BX.out)
                  replace B5 := Aside0.mk (blk_drew B5.out)
                  replace HB := Aside0.mk (below_drew1 HB.out)
                  refine start_ (n := 8) (S := fun w' => w'.heap[gx]? = some (.cells (rdC (.slice A0_1 l0_1.length c0_1) a0_2 a0_4 at_ a0_3 Y) 153 (0, 0))) (ds := [6]) #[false, false, false, false, false, false, false, false] (by kernel_rfl) rfl rfl (BX.out) (fun hHeld => ?_)
                  generalize wr.drew = w6 at HS BX B5 HB hHeld ⊢
                  refine qP 0 (some 40) (qt 8 1) ?_
                  refine qP 1 (some 41) (qt 8 3) ?_
                  refine qP 2 (some 42) (qt 8 7) ?_
                  refine qP 3 (some 43) (qt 8 15) ?_
                  refine qP 5 (some 4) (qt 8 47) ?_
                  refine take_ (i := 4) (N := some 44) (v := ?_) (a' := ?_) (qt 8 63) rfl rfl (by kernel_rfl) (fun _ _ _ h => h) (Or.inl ⟨by rfl, ?_⟩) hHeld ?_ ?_
                  rotate_left
                  · intro w' s0
                    refine (Ar.gload_run rfl Tryz.underlying39 rfl (D := (#[.int .i64 1, .slice A0_1 l0_1.length c0_1, .int .u64 a0_2] ++ (Ar.cells .u8 32 a0_3 ++ #[.int .u64 a0_4, .int .u64 at_]))) qz rfl (Ar.blk_part s0 (rdC_in _ _ _ _ _ _))).trans ?_; with_reducible rfl
                  rotate_left
                  · simp only [Act.put, zA_, zB_, zC_, i64_w, i32_w]
                    rfl
                  refine last_ (i := 6) (N := none) (qt 8 127) rfl rfl (by kernel_rfl) (by decide) (fun K hK => ?_)
                  refine Ar.gstore_step (by rfl) rfl rfl (D := (#[.int .i64 1, .slice A0_1 l0_1.length c0_1, .int .u64 a0_2] ++ (Ar.cells .u8 32 a0_3 ++ #[.int .u64 a0_4, .int .u64 at_]))) qz (g := g5) rfl qg B5.out (by simp [Ar.cells_size]) (by repeat (first | (with_reducible refine Ar.all_app ?_ ?_) | (with_reducible exact Ar.cells_one _ _ _) | (focus (simp [Value.oneCell']; done)) | rfl)) ?_
                  intro w7 hbk_ hg
                  replace HS := Aside0.mk (Kd.V_grown HS.out hg (fun k_ hk_ e_ => hk_.1.2 (Option.some.inj e_)))
                  replace BX := Aside0.mk (blk_grown BX.out hg (fun e_ => NX5.out (Option.some.inj e_)))
                  replace B5 := Aside0.mk (hbk_)
                  replace HB := Aside0.mk (Below.grown HB.out hg (below_size HB.out) (fun _ e_ => by cases e_; exact GEg5.out))
                  clear hbk_ hg
                  refine hK.out _ _ ?_
                  clear hK K
                  refine qP 7 (some 6) (qt 8 255) ?_
                  refine done_ (by kernel_rfl) ?_
                  try go_wp2
                  refine bodyPost_ret (results_list (rs := [.tmp 4, .cell 5 39, .tmp 6]) rfl (by simp) (.tmp (.cell g5 39 (#[.int .i64 1, .slice A0_1 l0_1.length c0_1, .int .u64 a0_2] ++ (Ar.cells .u8 32 a0_3 ++ #[.int .u64 a0_4, .int .u64 at_])) (0, 0) _ rfl B5.out Tryz.underlying39 rfl qz (.tmp .nil)))) rfl ?_
                  exact ⟨_, rfl, Kd.V_mono HS.out (fun _ hk => hk.1.1.1), HB.out⟩
          · rw [if_neg c4] at h
            exact absurd h (by simp)
end Go.Proofs.YtekmngghebpciaaGreat.PW
end
section
namespace Go.Proofs.YtekmngghebpciaaGreat.PW
open Go.RowKit Go.Proofs.YtekmngghebpciaaGreatW.PrintWords Go.Proofs.YtekmngghebpciaaGreatW.PrintLast Go.Proofs.YtekmngghebpciaaGreatW.PrintMore
attribute [local go_sem] max2_int min2_int max_two min_two max_three min_three max_four min_four
set_option linter.unusedVariables false
set_option linter.unusedSimpArgs false
def uniform_Draw.l0 : Nat → Int → Int → Int → Int → List Int → Int → List Int → Int → Int → Option (Int × Int × List Int × Int × List Int × Int × Int × Int)
 | 0, _, _, _, _, _, _, _, _, _ => none
 | k + 1, x1, x18, x19, x316000, x316001, x316002, x316003, x316004, x316005 => if x19 < x18 then ((uniform_Need.f k x1).bind fun t318 => ((tape_Take.f k x316000 x316001 x316002 x316003 x316004 x316005 t318).bind fun bt319 => (if bt319.2.2.2.2.2.2.2 = 0 then (if bt319.1 < x1 then (some (bt319.1, bt319.2.1, bt319.2.2.1, bt319.2.2.2.1, bt319.2.2.2.2.1, bt319.2.2.2.2.2.1, bt319.2.2.2.2.2.2.1, 0)) else (uniform_Draw.l0 k x1 x18 (wrap64 (x19 + 1)) bt319.2.1 bt319.2.2.1 bt319.2.2.2.1 bt319.2.2.2.2.1 bt319.2.2.2.2.2.1 bt319.2.2.2.2.2.2.1)) else (none)))) else (none)
def uniform_Draw.f (k : Nat) (a0_0 : Int) (l0_1 : List Int) (a0_2 : Int) (a0_3 : List Int) (a0_4 : Int) (a0_5 : Int) (a1 : Int) (a2 : Int) : Option (Int × Int × List Int × Int × List Int × Int × Int × Int) := (uniform_may.f a0_0 l0_1 a0_2 a0_3 a0_4 a0_5 a1 a2).bind fun t317 => (if t317 = true then (uniform_Draw.l0 k a1 a2 0 a0_0 l0_1 a0_2 a0_3 a0_4 a0_5) else (none))
theorem uniform_Draw.mono_l : ∀ k, (∀ y0 y1 y2 y3 y4 y5 y6 y7 y8, LeO (uniform_Draw.l0 k y0 y1 y2 y3 y4 y5 y6 y7 y8) (uniform_Draw.l0 (k + 1) y0 y1 y2 y3 y4 y5 y6 y7 y8))
 | 0 => fun _ _ _ _ _ _ _ _ _ r h => by simp [uniform_Draw.l0] at h
 | k + 1 => by
  have ih0 := uniform_Draw.mono_l k
  ·intro y0 y1 y2 y3 y4 y5 y6 y7 y8
   unfold uniform_Draw.l0
   repeat' first
   | (with_reducible exact ih0 _ _ _ _ _ _ _ _ _)
   | (with_reducible exact tape_Take.mono _ _ _ _ _ _ _ _)
   | (with_reducible exact uniform_Need.mono _ _)
   | (with_reducible exact LeO.refl _)
   | (with_reducible exact LeO.none _)
   | (with_reducible refine LeO.ite ?_ ?_)
   | (with_reducible refine LeO.bind ?_ (fun _ => ?_))
   | exact ih0 _ _ _ _ _ _ _ _ _
   | exact tape_Take.mono _ _ _ _ _ _ _ _
   | exact uniform_Need.mono _ _
   | exact LeO.none _
   | refine LeO.ite ?_ ?_
   | refine LeO.bind ?_ (fun _ => ?_)
theorem uniform_Draw.mono : ∀ a0 a1 a2 a3 a4 a5 a6 a7 k, LeO (uniform_Draw.f k a0 a1 a2 a3 a4 a5 a6 a7) (uniform_Draw.f (k + 1) a0 a1 a2 a3 a4 a5 a6 a7) := by
 intro a0 a1 a2 a3 a4 a5 a6 a7 k
 have ih0 := uniform_Draw.mono_l k
 unfold uniform_Draw.f
 repeat' first
   | (with_reducible exact ih0 _ _ _ _ _ _ _ _ _)
   | (with_reducible exact tape_Take.mono _ _ _ _ _ _ _ _)
   | (with_reducible exact uniform_Need.mono _ _)
   | (with_reducible exact LeO.refl _)
   | (with_reducible exact LeO.none _)
   | (with_reducible refine LeO.ite ?_ ?_)
   | (with_reducible refine LeO.bind ?_ (fun _ => ?_))
   | exact ih0 _ _ _ _ _ _ _ _ _
   | exact tape_Take.mono _ _ _ _ _ _ _ _
   | exact uniform_Need.mono _ _
   | exact LeO.none _
   | refine LeO.ite ?_ ?_
   | refine LeO.bind ?_ (fun _ => ?_)
def uniform_Draw.T5 : Bool × List (List Nat × List Nat) := (true, [([], []), ([], []), ([1], [1]), ([0, 2, 2], [0, 2]), ([3], [3]), ([4], [4]), ([4], [4]), ([4], [4]), ([], []), ([5, 3, 0, 1, 2, 3, 4, 5, 8], [5]), ([8, 6, 9, 0, 1, 2, 3, 4, 5, 6, 8, 9], [6, 8]), ([7, 10, 0, 1, 2, 3, 4, 5, 6, 7, 8, 9, 10], [7])])
def uniform_Draw.B5 : List Nat := [0, 0, 2, 7, 15, 31, 31, 31, 0, 319, 895, 2047]
theorem uniform_Draw.tab5 : rtab .any (opsOf Tryz.f38 5) = uniform_Draw.T5 := by kernel_rfl
theorem uniform_Draw.bits5 : waitsOk uniform_Draw.T5.2 uniform_Draw.B5 = true := by kernel_rfl
set_option maxHeartbeats 8000000 in
set_option maxRecDepth 100000 in
theorem uniform_Draw.calls (k : Nat) (a0_0 : Int) (P0_1_ : Nat → Prop) (A0_1 : Option Addr) (c0_1 : Nat) (l0_1 : List Int) (a0_2 : Int) (a0_3 : List Int) (a0_4 : Int) (a0_5 : Int) (a1 : Int) (a2 : Int) (r1 : Int) (r2 : Int) (r3 : List Int) (r4 : Int) (r5 : List Int) (r6 : Int) (r7 : Int) (r8 : Int) (w : World) (hs0_1 : Kd.V (Kd.int .u8) 5 w w.heap.size (fun k_ => P0_1_ k_) (.slice A0_1 l0_1.length c0_1) l0_1) (h : uniform_Draw.f k a0_0 l0_1 a0_2 a0_3 a0_4 a0_5 a1 a2 = some (r1, r2, r3, r4, r5, r6, r7, r8)) :
  Calls Tryz.prog 38 #[.agg (#[.int .i64 a0_0, .slice A0_1 l0_1.length c0_1, .int .u64 a0_2] ++ (Ar.cells .u8 32 a0_3 ++ #[.int .u64 a0_4, .int .u64 a0_5])), .int .u64 a1, .int .i64 a2] w fun e w' => ∃ v2_ : Value, e = .returned (.tuple #[.int .u64 r1, .agg (#[.int .i64 r2, v2_, .int .u64 r4] ++ (Ar.cells .u8 32 r5 ++ #[.int .u64 r6, .int .u64 r7])), .int .i64 r8]) ∧ Kd.V (Kd.int .u8) 5 w' w.heap.size (fun k_ => (P0_1_ k_ ∨ w.heap.size ≤ k_)) v2_ r3 ∧ Below w.heap.size w w' := by
 have hu39 := Tryz.underlying39
 have HO0_1 := Aside0.mk (show Kd.V (Kd.int .u8) 5 w w.heap.size (fun k_ => (P0_1_ k_ ∨ w.heap.size ≤ k_)) (.slice A0_1 l0_1.length c0_1) l0_1 from Kd.V_mono hs0_1 (fun k_ hk => .inl hk))
 have HB := Aside0.mk (Below.refl w.heap.size w)
 have H : ((uniform_may.f a0_0 l0_1 a0_2 a0_3 a0_4 a0_5 a1 a2).bind fun t317 => (if t317 = true then (uniform_Draw.l0 k a1 a2 0 a0_0 l0_1 a0_2 a0_3 a0_4 a0_5) else (none))) = some (r1, r2, r3, r4, r5, r6, r7, r8) := h
 clear h
 replace H := Option.bind_eq_some_iff.mp H
 obtain ⟨t317, A40, H⟩ := H
 try dsimp only at H
 have A4 := Aside0.mk A40
 clear A40
 by_cases c5 : t317 = true
 ·subst c5
  have H1 : (uniform_Draw.l0 k a1 a2 0 a0_0 l0_1 a0_2 a0_3 a0_4 a0_5) = some (r1, r2, r3, r4, r5, r6, r7, r8) := by rw [if_pos rfl] at H; exact H
  clear H
  have H := H1
  clear H1
  have H' := Aside0.mk H
  clear H
  go_enter Tryz.func38, Tryz.ntmps38
  go_wp2_with (first | ((with_reducible refine qd 3 ?_); (try (refine gate_guard (by rfl) ?_; dsimp only)); refine qF (N := 3) (cs := (#[.int .i64 a0_0, .slice A0_1 l0_1.length c0_1, .int .u64 a0_2] ++ ((Ar.cells .u8 32 a0_3) ++ #[.int .u64 a0_4, .int .u64 a0_5]))) (t := 39) ?_; intro gb315 hg w6 hbox hb; replace HO0_1 := Aside0.mk (Kd.V_below (Kd.V_elderB (qv HO0_1) gb315 (Nat.le_of_eq hg.symm)) hb); have BK315 := Aside0.mk (hbox); have GW315 := Aside0.mk (qe HB hg); have GE315 := Aside0.mk (qe HB hg); replace HB := Aside0.mk (below_step (qs HB) hb); clear hb hbox hg) | ((with_reducible refine qd 7 ?_); (try (refine gate_guard (by rfl) ?_; dsimp only)); refine qF (N := 7) (cs := (#[.int .i64 0, .slice none 0 0, .int .u64 0] ++ ((Ar.cells .u8 32 (List.replicate 32 0)) ++ #[.int .u64 0, .int .u64 0]))) (t := 39) ?_; intro gb316 hg w7 hbox hb; replace HO0_1 := Aside0.mk (Kd.V_below (Kd.V_elderB (qv HO0_1) gb316 (Nat.le_of_eq hg.symm)) hb); have BK316 := Aside0.mk (hbox); have GW316 := Aside0.mk (qe HB hg); have GE316 := Aside0.mk (qe HB hg); replace HB := Aside0.mk (below_step (qs HB) hb); have NB315_316 := Aside0.mk (qu BK315 hg); have NB316_315 := Aside0.mk (qw BK315 hg); replace BK315 := Aside0.mk (qB BK315 hb); clear hb hbox hg) | ((with_reducible refine qd 12 ?_); (try (refine gate_guard (by rfl) ?_; dsimp only)); refine Ar.gload_event rfl (T := 39) rfl Tryz.underlying39 rfl (D := (#[.int .i64 a0_0, .slice A0_1 l0_1.length c0_1, .int .u64 a0_2] ++ ((Ar.cells .u8 32 a0_3) ++ #[.int .u64 a0_4, .int .u64 a0_5]))) qz (A := ⟨gb315, 0, none⟩) rfl (Ar.blk_part (qb BK315) Ar.in_whole) ?_) | ((with_reducible refine gate_callee (f := 68) rfl ?_); refine goesL_ (some 15) rfl rfl Tryz.func68 (by kernel_rfl) rfl #[.agg (#[.int .i64 a0_0, .slice A0_1 l0_1.length c0_1, .int .u64 a0_2] ++ ((Ar.cells .u8 32 a0_3) ++ #[.int .u64 a0_4, .int .u64 a0_5])), .int .u64 a1, .int .i64 a2] rfl ql ?_; (with_reducible refine (uniform_may.calls a0_0 _ _ l0_1 a0_2 a0_3 a0_4 a0_5 a1 a2 true _ ?side1 ?side2 A4.out).mono ?_); (case side1 => repeat (first | exact (Kd.V_reads' HO0_1.out).2.2 | (with_reducible refine Kd.C_alloc ?_ _) | (with_reducible refine Kd.C_drewN ?_ _) | (with_reducible refine Kd.C_drew ?_))); (case side2 => exact (Kd.V_reads' HO0_1.out).2.1); rintro e w8 ⟨rfl, hb⟩; refine ⟨_, rfl, ?_⟩; replace HO0_1 := Aside0.mk (Kd.V_below (qv HO0_1) hb); replace BK315 := Aside0.mk (qB BK315 hb); replace BK316 := Aside0.mk (qB BK316 hb); replace HB := Aside0.mk (below_step (qs HB) hb); (try clear hb); (try clear hb2); (try clear hk); (try clear hi)))
  go_loopg [19] k (fun kq v19 w' => ∃ (x19_1 : Int) (x316000_1 : Int) (x316001_1 : List Int) (x316002_1 : Int) (x316003_1 : List Int) (x316004_1 : Int) (x316005_1 : Int) (x317000_1 : Int) (x317002_1 : Int) (x317003_1 : List Int) (x317004_1 : Int) (x317005_1 : Int) (u316001 : Value), v19 = .int .i64 x19_1 ∧ Aside0 (uniform_Draw.l0 kq a1 a2 x19_1 x316000_1 x316001_1 x316002_1 x316003_1 x316004_1 x316005_1 = some (r1, r2, r3, r4, r5, r6, r7, r8)) ∧ Aside0 (kq ≤ k) ∧ Aside0 (Kd.V (Kd.int .u8) 5 w' w.heap.size (fun k_ => (P0_1_ k_ ∨ w.heap.size ≤ k_) ∧ k_ ≠ gb315 ∧ k_ ≠ gb316) u316001 x316001_1) ∧ Aside0 (w'.heap[gb315]? = some (.cells (#[.int .i64 x316000_1, u316001, .int .u64 x316002_1] ++ (Ar.cells .u8 32 x316003_1 ++ #[.int .u64 x316004_1, .int .u64 x316005_1])) 39 (0, 0))) ∧ Aside0 (w'.heap[gb316]? = some (.cells (#[.int .i64 x317000_1, (.slice none 0 0), .int .u64 x317002_1] ++ (Ar.cells .u8 32 x317003_1 ++ #[.int .u64 x317004_1, .int .u64 x317005_1])) 39 (0, 0))) ∧ Aside0 (Below w.heap.size w w'))
  case atStart => exact ⟨(0), (a0_0), (l0_1), (a0_2), (a0_3), (a0_4), (a0_5), (0), (0), ((List.replicate 32 0)), (0), (0), (.slice A0_1 l0_1.length c0_1), (by first | rfl | (simp; done) | (simp [*]; done)), H', ⟨Nat.le_refl _⟩, ⟨by (with_reducible repeat (first | apply Kd.V_alloc | apply Kd.V_drewN | apply Kd.V_drew)); exact Kd.V_mono HO0_1.out (fun _ hk => ⟨hk.1.1, ⟨hk.1.2, hk.2⟩⟩)⟩, ⟨(qb BK315)⟩, ⟨(qb BK316)⟩, ⟨(qs HB)⟩⟩
  case round =>
   clear H'
   try clear p2
   try clear c3
   try clear c5
   try clear c6
   obtain ⟨x19_1, x316000_1, x316001_1, x316002_1, x316003_1, x316004_1, x316005_1, x317000_1, x317002_1, x317003_1, x317004_1, x317005_1, u316001, rfl, HA, HK1, HO_316001, BK315, BK316, HB⟩ := hrel
   cases gk with
   | zero => exact absurd HA.out (by simp [uniform_Draw.l0])
   | succ k1 =>
    have H := HA.out
    clear HA
    simp only [uniform_Draw.l0] at H
    by_cases c9 : x19_1 < a2
    ·rw [if_pos c9] at H
     have c9b0 : decide (x19_1 < a2) = true := decide_eq_true c9
     clear c9
     replace H := Option.bind_eq_some_iff.mp H
     obtain ⟨t318, A100, H⟩ := H
     try dsimp only at H
     have A10 := Aside0.mk A100
     clear A100
     replace H := Option.bind_eq_some_iff.mp H
     obtain ⟨⟨t319, t320, t321, t324, t325, t326, t327, t328⟩, A110, H⟩ := H
     try dsimp only at H
     have A11 := Aside0.mk A110
     clear A110
     by_cases c12 : t328 = 0
     ·rw [if_pos c12] at H
      have c12b0 : (t328 == 0) = true := beq_iff_eq.mpr c12
      have c12b1 : (t328 != 0) = false := bne_eq_false_iff_eq.mpr c12
      clear c12
      by_cases c13 : t319 < a1
      ·rw [if_pos c13] at H
       have c13b0 : decide (t319 < a1) = true := decide_eq_true c13
       clear c13
       simp only [Option.some.injEq, Prod.mk.injEq] at H
       obtain ⟨rfl, rfl, rfl, rfl, rfl, rfl, rfl, rfl⟩ := H
       obtain ⟨Ao14, co14, eo14⟩ := Kd.V_slice HO_316001.out
       subst eo14
       try go_wp2
       replace HO_316001 := Aside0.mk (Kd.V_drew HO_316001.out)
       replace BK315 := Aside0.mk (blk_drew BK315.out)
       replace BK316 := Aside0.mk (blk_drew BK316.out)
       replace HB := Aside0.mk (below_drew1 HB.out)
       refine start_ (n := 12) (S := fun w' => w'.heap[gb315]? = some (.cells (#[.int .i64 x316000_1, .slice Ao14 x316001_1.length co14, .int .u64 x316002_1] ++ ((Ar.cells .u8 32 x316003_1) ++ #[.int .u64 x316004_1, .int .u64 x316005_1])) 39 (0, 0)) ∧ w'.cell? ⟨gb315, 0, none⟩ = some (.int .i64 x316000_1) ∧ w'.cell? ⟨gb315, 1, none⟩ = some (.slice Ao14 x316001_1.length co14) ∧ w'.cell? ⟨gb315, 2, none⟩ = some (.int .u64 x316002_1) ∧ w'.cell? ⟨gb315, 35, none⟩ = some (.int .u64 x316004_1) ∧ w'.cell? ⟨gb315, 36, none⟩ = some (.int .u64 x316005_1)) (ds := []) #[false, false, false, false, false, false, false, false, false, false, false, false] (by kernel_rfl) rfl rfl ⟨BK315.out, (blk_cell BK315.out 0).trans qc, (blk_cell BK315.out 1).trans qc, (blk_cell BK315.out 2).trans qc, (blk_cell BK315.out 35).trans qc, (blk_cell BK315.out 36).trans qc⟩ (fun hHeld => ?_); refine with_tabW uniform_Draw.tab5 uniform_Draw.bits5 (fun HT_ HW_ => ?_)
       generalize wr.drew = w15 at HO_316001 BK315 BK316 HB hHeld ⊢
       refine qQ 1 (some 23) (qt 12 2) (any_of HT_.out (by kernel_rfl)) ?_
       refine take_ (i := 0) (N := some 22) (v := ?_) (a' := ?_) (qt 12 3) rfl rfl (take_ofW HT_.out HW_.out (by kernel_rfl)) (fun _ _ _ h => h) (Or.inl ⟨by rfl, ?_⟩) hHeld ?_ ?_
       rotate_left
       ·rintro w' ⟨s0, s1, s2, s3, s4, s5⟩
        first | (refine (Ar.gload_run rfl Tryz.underlying39 rfl (D := (#[.int .i64 x316000_1, .slice Ao14 x316001_1.length co14, .int .u64 x316002_1] ++ ((Ar.cells .u8 32 x316003_1) ++ #[.int .u64 x316004_1, .int .u64 x316005_1]))) qz rfl (Ar.blk_part (by assumption) Ar.in_whole)).trans ?_; with_reducible rfl) | (go_simp; with_reducible rfl)
       rotate_left
       ·simp only [Act.put, zA_, zB_, zC_, i64_w, i32_w]
        rfl
       refine join_ (σ := Value × Nat) 3 (qt 12 511) (fun s_ => [(24, .int .i64 t318), (25, .tuple #[.int .u64 t319, .agg (#[.int .i64 t320, s_.1, .int .u64 t324] ++ ((Ar.cells .u8 32 t325) ++ #[.int .u64 t326, .int .u64 t327])), .int .i64 t328]), (10, .pointer (some ⟨s_.2, 0, none⟩)), (21, .tuple #[.int .u64 t319, .agg (#[.int .i64 t320, s_.1, .int .u64 t324] ++ ((Ar.cells .u8 32 t325) ++ #[.int .u64 t326, .int .u64 t327])), .int .i64 t328]), (26, .int .u64 t319), (27, .agg (#[.int .i64 t320, s_.1, .int .u64 t324] ++ ((Ar.cells .u8 32 t325) ++ #[.int .u64 t326, .int .u64 t327]))), (28, .int .i64 t328)]) (fun s_ w' => (w'.heap[gb315]? = some (.cells (#[.int .i64 x316000_1, .slice Ao14 x316001_1.length co14, .int .u64 x316002_1] ++ ((Ar.cells .u8 32 x316003_1) ++ #[.int .u64 x316004_1, .int .u64 x316005_1])) 39 (0, 0)) ∧ w'.cell? ⟨gb315, 0, none⟩ = some (.int .i64 x316000_1) ∧ w'.cell? ⟨gb315, 1, none⟩ = some (.slice Ao14 x316001_1.length co14) ∧ w'.cell? ⟨gb315, 2, none⟩ = some (.int .u64 x316002_1) ∧ w'.cell? ⟨gb315, 35, none⟩ = some (.int .u64 x316004_1) ∧ w'.cell? ⟨gb315, 36, none⟩ = some (.int .u64 x316005_1)) ∧ (Kd.V (Kd.int .u8) 5 w' w.heap.size (fun k_ => (P0_1_ k_ ∨ w.heap.size ≤ k_) ∧ k_ ≠ gb315 ∧ k_ ≠ gb316 ∧ k_ ≠ s_.2) s_.1 t321) ∧ (Kd.V (Kd.int .u8) 5 w' w.heap.size (fun k_ => (P0_1_ k_ ∨ w.heap.size ≤ k_) ∧ k_ ≠ gb315 ∧ k_ ≠ gb316 ∧ k_ ≠ s_.2) (.slice Ao14 x316001_1.length co14) x316001_1) ∧ (w'.heap[gb315]? = some (.cells (#[.int .i64 x316000_1, .slice Ao14 x316001_1.length co14, .int .u64 x316002_1] ++ ((Ar.cells .u8 32 x316003_1) ++ #[.int .u64 x316004_1, .int .u64 x316005_1])) 39 (0, 0))) ∧ (w'.heap[gb316]? = some (.cells (#[.int .i64 x317000_1, .slice none 0 0, .int .u64 x317002_1] ++ ((Ar.cells .u8 32 x317003_1) ++ #[.int .u64 x317004_1, .int .u64 x317005_1])) 39 (0, 0))) ∧ (w'.heap[s_.2]? = some (.cells (#[.int .i64 0, .slice none 0 0, .int .u64 0] ++ ((Ar.cells .u8 32 (List.replicate 32 0)) ++ #[.int .u64 0, .int .u64 0])) 39 (0, 0))) ∧ (w.heap.size ≤ s_.2) ∧ (w.heap.size ≤ s_.2) ∧ (gb315 ≠ s_.2) ∧ (s_.2 ≠ gb315) ∧ (gb316 ≠ s_.2) ∧ (s_.2 ≠ gb316) ∧ (Below w.heap.size w w')) ?_ ?_
       rotate_left
       ·intro hCont
        refine two_ (i := 2) (j := 8) (Ni := some 24) (Nj := some 10) (qt 12 7) (qt 12 259) rfl rfl rfl rfl (two_of HT_.out (by kernel_rfl)) (by decide) (by decide) (fun K hK => ?_) (fun K hK => ?_)
        ·skip
         refine goes_ Tryz.func70 (by kernel_rfl) rfl #[.int .u64 a1] (by rfl) rfl rfl ql ?_
         with_reducible refine (uniform_Need.calls k1 a1 t318 _ A10.out).mono ?_
         rintro e w16 ⟨rfl, hb⟩
         refine ⟨_, rfl, ?_⟩
         replace HO_316001 := Aside0.mk (Kd.V_below (qv HO_316001) hb)
         replace BK315 := Aside0.mk (qB BK315 hb)
         replace BK316 := Aside0.mk (qB BK316 hb)
         replace HB := Aside0.mk (below_step (qs HB) hb)
         (try clear hb)
         (try clear hb2)
         (try clear hk)
         (try clear hi)
         refine hK.out _ _ ⟨BK315.out, (blk_cell BK315.out 0).trans qc, (blk_cell BK315.out 1).trans qc, (blk_cell BK315.out 2).trans qc, (blk_cell BK315.out 35).trans qc, (blk_cell BK315.out 36).trans qc⟩ (fun hHeld => ?_)
         clear hK K
         refine norm_ (a' := ?_) ?_ ?_
         rotate_left
         ·show Act.put _ (some 24) _ = _
          simp only [Act.put, zA_, zB_, zC_, i64_w, i32_w]
          rfl
         refine two_ (i := 3) (j := 8) (Ni := some 25) (Nj := some 10) (qt 12 15) (qt 12 263) rfl rfl rfl rfl (two_of HT_.out (by kernel_rfl)) (by decide) (by decide) (fun K hK => ?_) (fun K hK => ?_)
         ·skip
          refine goes_ Tryz.func69 (by kernel_rfl) rfl #[.agg (#[.int .i64 x316000_1, .slice Ao14 x316001_1.length co14, .int .u64 x316002_1] ++ ((Ar.cells .u8 32 x316003_1) ++ #[.int .u64 x316004_1, .int .u64 x316005_1])), .int .i64 t318] (by rfl) rfl rfl ql ?_
          with_reducible refine (tape_Take.calls k1 x316000_1 (fun k_ => ((P0_1_ k_ ∨ w.heap.size ≤ k_) ∧ (k_ ≠ gb315 ∧ k_ ≠ gb316))) _ _ x316001_1 x316002_1 x316003_1 x316004_1 x316005_1 t318 t319 t320 t321 t324 t325 t326 t327 t328 _ ?side1 A11.out).mono ?_
          (case side1 => exact HO_316001.out)
          rintro e w17 ⟨v322, rfl, ho0, hb⟩
          refine ⟨_, rfl, ?_⟩
          replace HO_316001 := Aside0.mk (Kd.V_below (qv HO_316001) hb)
          have HO323 := Aside0.mk (Kd.V_lower (Kd.V_mono (ok' := fun k_ => (P0_1_ k_ ∨ w.heap.size ≤ k_) ∧ k_ ≠ gb315 ∧ k_ ≠ gb316) ho0 (fun k_ hk_ => ⟨Or.elim hk_ (fun hs_ => hs_.1) (fun hn_ => (.inr (Nat.le_trans (below_size (qs HB)) hn_))), Or.elim hk_ (fun hs_ => hs_.2.1) (fun hn_ => (Kd.freshB (g := gb315) (o := .cells (#[.int .i64 x316000_1, .slice Ao14 x316001_1.length co14, .int .u64 x316002_1] ++ ((Ar.cells .u8 32 x316003_1) ++ #[.int .u64 x316004_1, .int .u64 x316005_1])) 39 (0, 0)) (qb BK315) k_ hn_)), Or.elim hk_ (fun hs_ => hs_.2.2) (fun hn_ => (Kd.freshB (g := gb316) (o := .cells (#[.int .i64 x317000_1, .slice none 0 0, .int .u64 x317002_1] ++ ((Ar.cells .u8 32 x317003_1) ++ #[.int .u64 x317004_1, .int .u64 x317005_1])) 39 (0, 0)) (qb BK316) k_ hn_))⟩)) (below_size (qs HB)))
          replace BK315 := Aside0.mk (qB BK315 hb)
          replace BK316 := Aside0.mk (qB BK316 hb)
          replace HB := Aside0.mk (below_step (qs HB) hb)
          (try clear hb)
          (try clear hb2)
          (try clear hk)
          (try clear hi)
          (try clear ho0)
          refine hK.out _ _ ⟨BK315.out, (blk_cell BK315.out 0).trans qc, (blk_cell BK315.out 1).trans qc, (blk_cell BK315.out 2).trans qc, (blk_cell BK315.out 35).trans qc, (blk_cell BK315.out 36).trans qc⟩ (fun hHeld => ?_)
          clear hK K
          refine norm_ (a' := ?_) ?_ ?_
          rotate_left
          ·show Act.put _ (some 25) _ = _
           simp only [Act.put, zA_, zB_, zC_, i64_w, i32_w]
           rfl
          refine qQ 4 (some 21) (qt 12 31) (any_of HT_.out (by kernel_rfl)) ?_
          refine qQ 5 (some 26) (qt 12 63) (any_of HT_.out (by kernel_rfl)) ?_
          refine qQ 6 (some 27) (qt 12 127) (any_of HT_.out (by kernel_rfl)) ?_
          refine qQ 7 (some 28) (qt 12 255) (any_of HT_.out (by kernel_rfl)) ?_
          refine one_ (i := 8) (N := some 10) (qt 12 511) rfl rfl (one_of HT_.out (by kernel_rfl)) (by decide) (fun K hK => ?_)
          refine box_step ?hg (N := 10) ?hd (cs := (#[.int .i64 0, .slice none 0 0, .int .u64 0] ++ ((Ar.cells .u8 32 (List.replicate 32 0)) ++ #[.int .u64 0, .int .u64 0]))) (t := 39) ?hr ?_; (case hd => rfl); (case hg => rfl); (case hr => first | exact Ar.gbox_run rfl rfl | exact Ar.galloc_run rfl (by kernel_rfl) | (go_simp; done) | (go_simp; rfl))
          intro gb329 hg w18 hbox hb
          replace HO_316001 := Aside0.mk (Kd.V_below (Kd.V_elderB (qv HO_316001) gb329 (Nat.le_of_eq hg.symm)) hb)
          replace HO323 := Aside0.mk (Kd.V_below (Kd.V_elderB (qv HO323) gb329 (Nat.le_of_eq hg.symm)) hb)
          have BK329 := Aside0.mk (hbox)
          have GW329 := Aside0.mk (qe HB hg)
          have GE329 := Aside0.mk (qe HB hg)
          replace HB := Aside0.mk (below_step (qs HB) hb)
          have NB315_329 := Aside0.mk (qu BK315 hg)
          have NB329_315 := Aside0.mk (qw BK315 hg)
          replace BK315 := Aside0.mk (qB BK315 hb)
          have NB316_329 := Aside0.mk (qu BK316 hg)
          have NB329_316 := Aside0.mk (qw BK316 hg)
          replace BK316 := Aside0.mk (qB BK316 hb)
          clear hb hbox hg
          refine hK.out _ _ ⟨BK315.out, (blk_cell BK315.out 0).trans qc, (blk_cell BK315.out 1).trans qc, (blk_cell BK315.out 2).trans qc, (blk_cell BK315.out 35).trans qc, (blk_cell BK315.out 36).trans qc⟩ (fun hHeld => ?_)
          clear hK K
          refine norm_ (a' := ?_) ?_ ?_
          rotate_left
          ·show Act.put _ (some 10) _ = _
           simp only [Act.put, zA_, zB_, zC_, i64_w, i32_w]
           rfl
          exact norm_ (by simp only [putAll, Act.put, zA_, zB_, zC_]) (hCont (v322, gb329) _ ⟨hHeld, (by (with_reducible repeat (first | apply Kd.V_alloc | apply Kd.V_drewN | apply Kd.V_drew)); exact Kd.V_mono HO323.out (fun _ hk => ⟨hk.1.1, ⟨hk.1.2.1, ⟨hk.1.2.2, hk.2⟩⟩⟩)), (by (with_reducible repeat (first | apply Kd.V_alloc | apply Kd.V_drewN | apply Kd.V_drew)); exact Kd.V_mono HO_316001.out (fun _ hk => ⟨hk.1.1, ⟨hk.1.2.1, ⟨hk.1.2.2, hk.2⟩⟩⟩)), (qb BK315), (qb BK316), (qb BK329), GW329.out, GE329.out, NB315_329.out, NB329_315.out, NB316_329.out, NB329_316.out, (qs HB)⟩)
         ·skip
          refine box_step ?hg (N := 10) ?hd (cs := (#[.int .i64 0, .slice none 0 0, .int .u64 0] ++ ((Ar.cells .u8 32 (List.replicate 32 0)) ++ #[.int .u64 0, .int .u64 0]))) (t := 39) ?hr ?_; (case hd => rfl); (case hg => rfl); (case hr => first | exact Ar.gbox_run rfl rfl | exact Ar.galloc_run rfl (by kernel_rfl) | (go_simp; done) | (go_simp; rfl))
          intro gb329 hg w17 hbox hb
          replace HO_316001 := Aside0.mk (Kd.V_below (Kd.V_elderB (qv HO_316001) gb329 (Nat.le_of_eq hg.symm)) hb)
          have BK329 := Aside0.mk (hbox)
          have GW329 := Aside0.mk (qe HB hg)
          have GE329 := Aside0.mk (qe HB hg)
          replace HB := Aside0.mk (below_step (qs HB) hb)
          have NB315_329 := Aside0.mk (qu BK315 hg)
          have NB329_315 := Aside0.mk (qw BK315 hg)
          replace BK315 := Aside0.mk (qB BK315 hb)
          have NB316_329 := Aside0.mk (qu BK316 hg)
          have NB329_316 := Aside0.mk (qw BK316 hg)
          replace BK316 := Aside0.mk (qB BK316 hb)
          clear hb hbox hg
          refine hK.out _ _ ⟨BK315.out, (blk_cell BK315.out 0).trans qc, (blk_cell BK315.out 1).trans qc, (blk_cell BK315.out 2).trans qc, (blk_cell BK315.out 35).trans qc, (blk_cell BK315.out 36).trans qc⟩ (fun hHeld => ?_)
          clear hK K
          refine norm_ (a' := ?_) ?_ ?_
          rotate_left
          ·show Act.put _ (some 10) _ = _
           simp only [Act.put, zA_, zB_, zC_, i64_w, i32_w]
           rfl
          refine one_ (i := 3) (N := some 25) (qt 12 271) rfl rfl (one_of HT_.out (by kernel_rfl)) (by decide) (fun K hK => ?_)
          refine goes_ Tryz.func69 (by kernel_rfl) rfl #[.agg (#[.int .i64 x316000_1, .slice Ao14 x316001_1.length co14, .int .u64 x316002_1] ++ ((Ar.cells .u8 32 x316003_1) ++ #[.int .u64 x316004_1, .int .u64 x316005_1])), .int .i64 t318] (by rfl) rfl rfl ql ?_
          with_reducible refine (tape_Take.calls k1 x316000_1 (fun k_ => (((P0_1_ k_ ∨ w.heap.size ≤ k_) ∧ (k_ ≠ gb315 ∧ k_ ≠ gb316)) ∧ k_ ≠ gb329)) _ _ x316001_1 x316002_1 x316003_1 x316004_1 x316005_1 t318 t319 t320 t321 t324 t325 t326 t327 t328 _ ?side1 A11.out).mono ?_
          (case side1 => exact HO_316001.out)
          rintro e w18 ⟨v322, rfl, ho0, hb⟩
          refine ⟨_, rfl, ?_⟩
          replace HO_316001 := Aside0.mk (Kd.V_below (qv HO_316001) hb)
          have HO323 := Aside0.mk (Kd.V_lower (Kd.V_mono (ok' := fun k_ => (P0_1_ k_ ∨ w.heap.size ≤ k_) ∧ k_ ≠ gb315 ∧ k_ ≠ gb316 ∧ k_ ≠ gb329) ho0 (fun k_ hk_ => ⟨Or.elim hk_ (fun hs_ => hs_.1.1) (fun hn_ => (.inr (Nat.le_trans (below_size (qs HB)) hn_))), Or.elim hk_ (fun hs_ => hs_.1.2.1) (fun hn_ => (Kd.freshB (g := gb315) (o := .cells (#[.int .i64 x316000_1, .slice Ao14 x316001_1.length co14, .int .u64 x316002_1] ++ ((Ar.cells .u8 32 x316003_1) ++ #[.int .u64 x316004_1, .int .u64 x316005_1])) 39 (0, 0)) (qb BK315) k_ hn_)), Or.elim hk_ (fun hs_ => hs_.1.2.2) (fun hn_ => (Kd.freshB (g := gb316) (o := .cells (#[.int .i64 x317000_1, .slice none 0 0, .int .u64 x317002_1] ++ ((Ar.cells .u8 32 x317003_1) ++ #[.int .u64 x317004_1, .int .u64 x317005_1])) 39 (0, 0)) (qb BK316) k_ hn_)), Or.elim hk_ (fun hs_ => hs_.2) (fun hn_ => (Kd.freshB (g := gb329) (o := .cells (#[.int .i64 0, .slice none 0 0, .int .u64 0] ++ ((Ar.cells .u8 32 (List.replicate 32 0)) ++ #[.int .u64 0, .int .u64 0])) 39 (0, 0)) (qb BK329) k_ hn_))⟩)) (below_size (qs HB)))
          replace BK315 := Aside0.mk (qB BK315 hb)
          replace BK316 := Aside0.mk (qB BK316 hb)
          replace BK329 := Aside0.mk (qB BK329 hb)
          replace HB := Aside0.mk (below_step (qs HB) hb)
          (try clear hb)
          (try clear hb2)
          (try clear hk)
          (try clear hi)
          (try clear ho0)
          refine hK.out _ _ ⟨BK315.out, (blk_cell BK315.out 0).trans qc, (blk_cell BK315.out 1).trans qc, (blk_cell BK315.out 2).trans qc, (blk_cell BK315.out 35).trans qc, (blk_cell BK315.out 36).trans qc⟩ (fun hHeld => ?_)
          clear hK K
          refine norm_ (a' := ?_) ?_ ?_
          rotate_left
          ·show Act.put _ (some 25) _ = _
           simp only [Act.put, zA_, zB_, zC_, i64_w, i32_w]
           rfl
          refine qQ 4 (some 21) (qt 12 287) (any_of HT_.out (by kernel_rfl)) ?_
          refine qQ 5 (some 26) (qt 12 319) (any_of HT_.out (by kernel_rfl)) ?_
          refine qQ 6 (some 27) (qt 12 383) (any_of HT_.out (by kernel_rfl)) ?_
          refine qQ 7 (some 28) (qt 12 511) (any_of HT_.out (by kernel_rfl)) ?_
          exact norm_ (by simp only [putAll, Act.put, zA_, zB_, zC_]) (hCont (v322, gb329) _ ⟨hHeld, (qv HO323), (by (with_reducible repeat (first | apply Kd.V_alloc | apply Kd.V_drewN | apply Kd.V_drew)); exact Kd.V_mono HO_316001.out (fun _ hk => ⟨hk.1.1, ⟨hk.1.2.1, ⟨hk.1.2.2, hk.2⟩⟩⟩)), (qb BK315), (qb BK316), (qb BK329), GW329.out, GE329.out, NB315_329.out, NB329_315.out, NB316_329.out, NB329_316.out, (qs HB)⟩)
        ·skip
         refine box_step ?hg (N := 10) ?hd (cs := (#[.int .i64 0, .slice none 0 0, .int .u64 0] ++ ((Ar.cells .u8 32 (List.replicate 32 0)) ++ #[.int .u64 0, .int .u64 0]))) (t := 39) ?hr ?_; (case hd => rfl); (case hg => rfl); (case hr => first | exact Ar.gbox_run rfl rfl | exact Ar.galloc_run rfl (by kernel_rfl) | (go_simp; done) | (go_simp; rfl))
         intro gb329 hg w16 hbox hb
         replace HO_316001 := Aside0.mk (Kd.V_below (Kd.V_elderB (qv HO_316001) gb329 (Nat.le_of_eq hg.symm)) hb)
         have BK329 := Aside0.mk (hbox)
         have GW329 := Aside0.mk (qe HB hg)
         have GE329 := Aside0.mk (qe HB hg)
         replace HB := Aside0.mk (below_step (qs HB) hb)
         have NB315_329 := Aside0.mk (qu BK315 hg)
         have NB329_315 := Aside0.mk (qw BK315 hg)
         replace BK315 := Aside0.mk (qB BK315 hb)
         have NB316_329 := Aside0.mk (qu BK316 hg)
         have NB329_316 := Aside0.mk (qw BK316 hg)
         replace BK316 := Aside0.mk (qB BK316 hb)
         clear hb hbox hg
         refine hK.out _ _ ⟨BK315.out, (blk_cell BK315.out 0).trans qc, (blk_cell BK315.out 1).trans qc, (blk_cell BK315.out 2).trans qc, (blk_cell BK315.out 35).trans qc, (blk_cell BK315.out 36).trans qc⟩ (fun hHeld => ?_)
         clear hK K
         refine norm_ (a' := ?_) ?_ ?_
         rotate_left
         ·show Act.put _ (some 10) _ = _
          simp only [Act.put, zA_, zB_, zC_, i64_w, i32_w]
          rfl
         refine one_ (i := 2) (N := some 24) (qt 12 263) rfl rfl (one_of HT_.out (by kernel_rfl)) (by decide) (fun K hK => ?_)
         refine goes_ Tryz.func70 (by kernel_rfl) rfl #[.int .u64 a1] (by rfl) rfl rfl ql ?_
         with_reducible refine (uniform_Need.calls k1 a1 t318 _ A10.out).mono ?_
         rintro e w17 ⟨rfl, hb⟩
         refine ⟨_, rfl, ?_⟩
         replace HO_316001 := Aside0.mk (Kd.V_below (qv HO_316001) hb)
         replace BK315 := Aside0.mk (qB BK315 hb)
         replace BK316 := Aside0.mk (qB BK316 hb)
         replace BK329 := Aside0.mk (qB BK329 hb)
         replace HB := Aside0.mk (below_step (qs HB) hb)
         (try clear hb)
         (try clear hb2)
         (try clear hk)
         (try clear hi)
         refine hK.out _ _ ⟨BK315.out, (blk_cell BK315.out 0).trans qc, (blk_cell BK315.out 1).trans qc, (blk_cell BK315.out 2).trans qc, (blk_cell BK315.out 35).trans qc, (blk_cell BK315.out 36).trans qc⟩ (fun hHeld => ?_)
         clear hK K
         refine norm_ (a' := ?_) ?_ ?_
         rotate_left
         ·show Act.put _ (some 24) _ = _
          simp only [Act.put, zA_, zB_, zC_, i64_w, i32_w]
          rfl
         refine one_ (i := 3) (N := some 25) (qt 12 271) rfl rfl (one_of HT_.out (by kernel_rfl)) (by decide) (fun K hK => ?_)
         refine goes_ Tryz.func69 (by kernel_rfl) rfl #[.agg (#[.int .i64 x316000_1, .slice Ao14 x316001_1.length co14, .int .u64 x316002_1] ++ ((Ar.cells .u8 32 x316003_1) ++ #[.int .u64 x316004_1, .int .u64 x316005_1])), .int .i64 t318] (by rfl) rfl rfl ql ?_
         with_reducible refine (tape_Take.calls k1 x316000_1 (fun k_ => (((P0_1_ k_ ∨ w.heap.size ≤ k_) ∧ (k_ ≠ gb315 ∧ k_ ≠ gb316)) ∧ k_ ≠ gb329)) _ _ x316001_1 x316002_1 x316003_1 x316004_1 x316005_1 t318 t319 t320 t321 t324 t325 t326 t327 t328 _ ?side1 A11.out).mono ?_
         (case side1 => exact HO_316001.out)
         rintro e w18 ⟨v322, rfl, ho0, hb⟩
         refine ⟨_, rfl, ?_⟩
         replace HO_316001 := Aside0.mk (Kd.V_below (qv HO_316001) hb)
         have HO323 := Aside0.mk (Kd.V_lower (Kd.V_mono (ok' := fun k_ => (P0_1_ k_ ∨ w.heap.size ≤ k_) ∧ k_ ≠ gb315 ∧ k_ ≠ gb316 ∧ k_ ≠ gb329) ho0 (fun k_ hk_ => ⟨Or.elim hk_ (fun hs_ => hs_.1.1) (fun hn_ => (.inr (Nat.le_trans (below_size (qs HB)) hn_))), Or.elim hk_ (fun hs_ => hs_.1.2.1) (fun hn_ => (Kd.freshB (g := gb315) (o := .cells (#[.int .i64 x316000_1, .slice Ao14 x316001_1.length co14, .int .u64 x316002_1] ++ ((Ar.cells .u8 32 x316003_1) ++ #[.int .u64 x316004_1, .int .u64 x316005_1])) 39 (0, 0)) (qb BK315) k_ hn_)), Or.elim hk_ (fun hs_ => hs_.1.2.2) (fun hn_ => (Kd.freshB (g := gb316) (o := .cells (#[.int .i64 x317000_1, .slice none 0 0, .int .u64 x317002_1] ++ ((Ar.cells .u8 32 x317003_1) ++ #[.int .u64 x317004_1, .int .u64 x317005_1])) 39 (0, 0)) (qb BK316) k_ hn_)), Or.elim hk_ (fun hs_ => hs_.2) (fun hn_ => (Kd.freshB (g := gb329) (o := .cells (#[.int .i64 0, .slice none 0 0, .int .u64 0] ++ ((Ar.cells .u8 32 (List.replicate 32 0)) ++ #[.int .u64 0, .int .u64 0])) 39 (0, 0)) (qb BK329) k_ hn_))⟩)) (below_size (qs HB)))
         replace BK315 := Aside0.mk (qB BK315 hb)
         replace BK316 := Aside0.mk (qB BK316 hb)
         replace BK329 := Aside0.mk (qB BK329 hb)
         replace HB := Aside0.mk (below_step (qs HB) hb)
         (try clear hb)
         (try clear hb2)
         (try clear hk)
         (try clear hi)
         (try clear ho0)
         refine hK.out _ _ ⟨BK315.out, (blk_cell BK315.out 0).trans qc, (blk_cell BK315.out 1).trans qc, (blk_cell BK315.out 2).trans qc, (blk_cell BK315.out 35).trans qc, (blk_cell BK315.out 36).trans qc⟩ (fun hHeld => ?_)
         clear hK K
         refine norm_ (a' := ?_) ?_ ?_
         rotate_left
         ·show Act.put _ (some 25) _ = _
          simp only [Act.put, zA_, zB_, zC_, i64_w, i32_w]
          rfl
         refine qQ 4 (some 21) (qt 12 287) (any_of HT_.out (by kernel_rfl)) ?_
         refine qQ 5 (some 26) (qt 12 319) (any_of HT_.out (by kernel_rfl)) ?_
         refine qQ 6 (some 27) (qt 12 383) (any_of HT_.out (by kernel_rfl)) ?_
         refine qQ 7 (some 28) (qt 12 511) (any_of HT_.out (by kernel_rfl)) ?_
         exact norm_ (by simp only [putAll, Act.put, zA_, zB_, zC_]) (hCont (v322, gb329) _ ⟨hHeld, (qv HO323), (by (with_reducible repeat (first | apply Kd.V_alloc | apply Kd.V_drewN | apply Kd.V_drew)); exact Kd.V_mono HO_316001.out (fun _ hk => ⟨hk.1.1, ⟨hk.1.2.1, ⟨hk.1.2.2, hk.2⟩⟩⟩)), (qb BK315), (qb BK316), (qb BK329), GW329.out, GE329.out, NB315_329.out, NB329_315.out, NB316_329.out, NB329_316.out, (qs HB)⟩)
       rintro ⟨v322, gb329⟩ w19 ⟨hS_, h0_, h1_, h2_, h3_, h4_, h5_, h6_, h7_, h8_, h9_, h10_, h11_⟩
       have n0_ : Aside0 (Kd.V (Kd.int .u8) 5 w19 w.heap.size (fun k_ => (P0_1_ k_ ∨ w.heap.size ≤ k_) ∧ k_ ≠ gb315 ∧ k_ ≠ gb316 ∧ k_ ≠ gb329) v322 t321) := ⟨h0_⟩
       have n1_ : Aside0 (Kd.V (Kd.int .u8) 5 w19 w.heap.size (fun k_ => (P0_1_ k_ ∨ w.heap.size ≤ k_) ∧ k_ ≠ gb315 ∧ k_ ≠ gb316 ∧ k_ ≠ gb329) (.slice Ao14 x316001_1.length co14) x316001_1) := ⟨h1_⟩
       have n2_ : Aside0 (w19.heap[gb315]? = some (.cells (#[.int .i64 x316000_1, .slice Ao14 x316001_1.length co14, .int .u64 x316002_1] ++ ((Ar.cells .u8 32 x316003_1) ++ #[.int .u64 x316004_1, .int .u64 x316005_1])) 39 (0, 0))) := ⟨h2_⟩
       have n3_ : Aside0 (w19.heap[gb316]? = some (.cells (#[.int .i64 x317000_1, .slice none 0 0, .int .u64 x317002_1] ++ ((Ar.cells .u8 32 x317003_1) ++ #[.int .u64 x317004_1, .int .u64 x317005_1])) 39 (0, 0))) := ⟨h3_⟩
       have n4_ : Aside0 (w19.heap[gb329]? = some (.cells (#[.int .i64 0, .slice none 0 0, .int .u64 0] ++ ((Ar.cells .u8 32 (List.replicate 32 0)) ++ #[.int .u64 0, .int .u64 0])) 39 (0, 0))) := ⟨h4_⟩
       have n5_ : Aside0 (w.heap.size ≤ gb329) := ⟨h5_⟩
       have n6_ : Aside0 (w.heap.size ≤ gb329) := ⟨h6_⟩
       have n7_ : Aside0 (gb315 ≠ gb329) := ⟨h7_⟩
       have n8_ : Aside0 (gb329 ≠ gb315) := ⟨h8_⟩
       have n9_ : Aside0 (gb316 ≠ gb329) := ⟨h9_⟩
       have n10_ : Aside0 (gb329 ≠ gb316) := ⟨h10_⟩
       have n11_ : Aside0 (Below w.heap.size w w19) := ⟨h11_⟩
       clear HO_316001 BK315 BK316 HB h0_ h1_ h2_ h3_ h4_ h5_ h6_ h7_ h8_ h9_ h10_ h11_
       have HO323 := n0_
       have HO_316001 := n1_
       have BK315 := n2_
       have BK316 := n3_
       have BK329 := n4_
       have GW329 := n5_
       have GE329 := n6_
       have NB315_329 := n7_
       have NB329_315 := n8_
       have NB316_329 := n9_
       have NB329_316 := n10_
       have HB := n11_
       clear n0_ n1_ n2_ n3_ n4_ n5_ n6_ n7_ n8_ n9_ n10_ n11_
       have hHeld : w19.heap[gb315]? = some (.cells (#[.int .i64 x316000_1, .slice Ao14 x316001_1.length co14, .int .u64 x316002_1] ++ ((Ar.cells .u8 32 x316003_1) ++ #[.int .u64 x316004_1, .int .u64 x316005_1])) 39 (0, 0)) ∧ w19.cell? ⟨gb315, 0, none⟩ = some (.int .i64 x316000_1) ∧ w19.cell? ⟨gb315, 1, none⟩ = some (.slice Ao14 x316001_1.length co14) ∧ w19.cell? ⟨gb315, 2, none⟩ = some (.int .u64 x316002_1) ∧ w19.cell? ⟨gb315, 35, none⟩ = some (.int .u64 x316004_1) ∧ w19.cell? ⟨gb315, 36, none⟩ = some (.int .u64 x316005_1) := hS_
       refine norm_ (a' := ?_) ?_ ?_
       rotate_left
       ·simp only [putAll, Act.put, zA_, zB_, zC_]
        rfl
       refine qQ 9 (some 9) (qt 12 1023) (any_of HT_.out (by kernel_rfl)) ?_
       refine one_ (i := 10) (N := none) (qt 12 2047) rfl rfl (one_of HT_.out (by kernel_rfl)) (by decide) (fun K hK => ?_)
       refine Ar.gstore_step (by rfl) rfl rfl (D := (#[.int .i64 t320, v322, .int .u64 t324] ++ ((Ar.cells .u8 32 t325) ++ #[.int .u64 t326, .int .u64 t327]))) qz (g := gb329) rfl qg (qb BK329) (by simp [Ar.cells_size]) (by repeat (first | (with_reducible refine Ar.all_app ?_ ?_) | (with_reducible exact Ar.cells_one _ _ _) | (focus (simp [Value.oneCell']; done)) | (focus (simp [(show (v322 : Value).oneCell' = true from by (have e_ := Kd.V_slice HO323.out; obtain ⟨_, _, e_⟩ := e_; rw [e_]; rfl))]; first | done | rfl | (repeat' constructor))) | rfl)) ?_; intro w20 hbk_ hg
       replace HO_316001 := Aside0.mk (Kd.V_grown (qv HO_316001) hg (by intro k_ hk e_; exact (hk.2.2.2) (Option.some.inj e_)))
       replace BK315 := Aside0.mk (qG BK315 hg (fun e_ => NB315_329.out (Option.some.inj e_)))
       replace BK316 := Aside0.mk (qG BK316 hg (fun e_ => NB316_329.out (Option.some.inj e_)))
       replace HO323 := Aside0.mk (Kd.V_grown (qv HO323) hg (by intro k_ hk e_; exact (hk.2.2.2) (Option.some.inj e_)))
       replace BK329 := Aside0.mk (hbk_)
       replace HB := Aside0.mk (Below.grown (qs HB) hg ((below_size (qs HB))) (fun _ e_ => by cases e_; exact GE329.out))
       clear hbk_ hg
       refine hK.out _ _ ⟨BK315.out, (blk_cell BK315.out 0).trans qc, (blk_cell BK315.out 1).trans qc, (blk_cell BK315.out 2).trans qc, (blk_cell BK315.out 35).trans qc, (blk_cell BK315.out 36).trans qc⟩ (fun hHeld => ?_)
       clear hK K
       refine qQ 11 (some 11) (qt 12 4095) (any_of HT_.out (by kernel_rfl)) ?_
       refine done_ (done_of HT_.out (by kernel_rfl)) ?_
       try go_wp2
       replace HO_316001 := Aside0.mk (Kd.V_drew HO_316001.out)
       replace HO323 := Aside0.mk (Kd.V_drew HO323.out)
       replace BK315 := Aside0.mk (blk_drew BK315.out)
       replace BK316 := Aside0.mk (blk_drew BK316.out)
       replace BK329 := Aside0.mk (blk_drew BK329.out)
       replace HB := Aside0.mk (below_drew1 HB.out)
       refine start_ (n := 5) (S := fun w' => w'.heap[gb329]? = some (.cells (#[.int .i64 t320, v322, .int .u64 t324] ++ ((Ar.cells .u8 32 t325) ++ #[.int .u64 t326, .int .u64 t327])) 39 (0, 0)) ∧ w'.cell? ⟨gb329, 0, none⟩ = some (.int .i64 t320) ∧ w'.cell? ⟨gb329, 1, none⟩ = some (v322) ∧ w'.cell? ⟨gb329, 2, none⟩ = some (.int .u64 t324) ∧ w'.cell? ⟨gb329, 35, none⟩ = some (.int .u64 t326) ∧ w'.cell? ⟨gb329, 36, none⟩ = some (.int .u64 t327)) (ds := []) #[false, false, false, false, false] (by kernel_rfl) rfl rfl ⟨BK329.out, (blk_cell BK329.out 0).trans qc, (blk_cell BK329.out 1).trans qc, (blk_cell BK329.out 2).trans qc, (blk_cell BK329.out 35).trans qc, (blk_cell BK329.out 36).trans qc⟩ (fun hHeld => ?_)
       generalize w20.drew = w21 at HO_316001 HO323 BK315 BK316 BK329 HB hHeld ⊢
       refine qP 0 (some 38) (qt 5 1) ?_
       refine qP 2 (some 6) (qt 5 5) ?_
       refine take_ (i := 1) (N := some 39) (v := ?_) (a' := ?_) (qt 5 7) rfl rfl (by kernel_rfl) (fun _ _ _ h => h) (Or.inl ⟨by rfl, ?_⟩) hHeld ?_ ?_
       rotate_left
       ·rintro w' ⟨s0, s1, s2, s3, s4, s5⟩
        first | (refine (Ar.gload_run rfl Tryz.underlying39 rfl (D := (#[.int .i64 t320, v322, .int .u64 t324] ++ ((Ar.cells .u8 32 t325) ++ #[.int .u64 t326, .int .u64 t327]))) qz rfl (Ar.blk_part (by assumption) Ar.in_whole)).trans ?_; with_reducible rfl) | (go_simp; with_reducible rfl)
       rotate_left
       ·simp only [Act.put, zA_, zB_, zC_, i64_w, i32_w]
        rfl
       refine one_ (i := 3) (N := none) (qt 5 15) rfl rfl (by kernel_rfl) (by decide) (fun K hK => ?_)
       refine Ar.gstore_step (by rfl) rfl rfl (D := (#[.int .i64 t320, v322, .int .u64 t324] ++ ((Ar.cells .u8 32 t325) ++ #[.int .u64 t326, .int .u64 t327]))) qz (g := gb316) rfl qg (qb BK316) (by simp [Ar.cells_size]) (by repeat (first | (with_reducible refine Ar.all_app ?_ ?_) | (with_reducible exact Ar.cells_one _ _ _) | (focus (simp [Value.oneCell']; done)) | (focus (simp [(show (v322 : Value).oneCell' = true from by (have e_ := Kd.V_slice HO323.out; obtain ⟨_, _, e_⟩ := e_; rw [e_]; rfl))]; first | done | rfl | (repeat' constructor))) | rfl)) ?_; intro w22 hbk_ hg
       replace HO_316001 := Aside0.mk (Kd.V_grown (qv HO_316001) hg (by intro k_ hk e_; exact (hk.2.2.1) (Option.some.inj e_)))
       replace BK315 := Aside0.mk (qG BK315 hg (fun e_ => NB315_316.out (Option.some.inj e_)))
       replace HO323 := Aside0.mk (Kd.V_grown (qv HO323) hg (by intro k_ hk e_; exact (hk.2.2.1) (Option.some.inj e_)))
       replace BK329 := Aside0.mk (qG BK329 hg (fun e_ => NB329_316.out (Option.some.inj e_)))
       replace BK316 := Aside0.mk (hbk_)
       replace HB := Aside0.mk (Below.grown (qs HB) hg ((below_size (qs HB))) (fun _ e_ => by cases e_; exact GE316.out))
       clear hbk_ hg
       refine hK.out _ _ ⟨BK329.out, (blk_cell BK329.out 0).trans qc, (blk_cell BK329.out 1).trans qc, (blk_cell BK329.out 2).trans qc, (blk_cell BK329.out 35).trans qc, (blk_cell BK329.out 36).trans qc⟩ (fun hHeld => ?_)
       clear hK K
       refine qP 4 (some 8) (qt 5 31) ?_
       refine done_ (by kernel_rfl) ?_
       try go_wp2
       refine bodyPost_ret (results_list (rs := [.tmp 6, .cell 7 39, .tmp 8]) rfl (by simp) (.tmp (.cell gb316 39 (#[.int .i64 t320, v322, .int .u64 t324] ++ ((Ar.cells .u8 32 t325) ++ #[.int .u64 t326, .int .u64 t327])) (0, 0) _ rfl (qb BK316) Tryz.underlying39 rfl qz (.tmp .nil)))) rfl ?_
       exact ⟨_, by first | rfl | (simp [errW_none, errW_some] <;> rfl) | (simp [*, errW_none, errW_some] <;> rfl), by (with_reducible repeat (first | apply Kd.V_alloc | apply Kd.V_drewN | apply Kd.V_drew)); exact Kd.V_mono HO323.out (fun _ hk => hk.1), (qs HB)⟩
      ·rw [if_neg c13] at H
       have c13b0 : decide (t319 < a1) = false := decide_eq_false c13
       clear c13
       have H' := Aside0.mk H
       clear H
       obtain ⟨Ao23, co23, eo23⟩ := Kd.V_slice HO_316001.out
       subst eo23
       try go_wp2
       replace HO_316001 := Aside0.mk (Kd.V_drew HO_316001.out)
       replace BK315 := Aside0.mk (blk_drew BK315.out)
       replace BK316 := Aside0.mk (blk_drew BK316.out)
       replace HB := Aside0.mk (below_drew1 HB.out)
       refine start_ (n := 12) (S := fun w' => w'.heap[gb315]? = some (.cells (#[.int .i64 x316000_1, .slice Ao23 x316001_1.length co23, .int .u64 x316002_1] ++ ((Ar.cells .u8 32 x316003_1) ++ #[.int .u64 x316004_1, .int .u64 x316005_1])) 39 (0, 0)) ∧ w'.cell? ⟨gb315, 0, none⟩ = some (.int .i64 x316000_1) ∧ w'.cell? ⟨gb315, 1, none⟩ = some (.slice Ao23 x316001_1.length co23) ∧ w'.cell? ⟨gb315, 2, none⟩ = some (.int .u64 x316002_1) ∧ w'.cell? ⟨gb315, 35, none⟩ = some (.int .u64 x316004_1) ∧ w'.cell? ⟨gb315, 36, none⟩ = some (.int .u64 x316005_1)) (ds := []) #[false, false, false, false, false, false, false, false, false, false, false, false] (by kernel_rfl) rfl rfl ⟨BK315.out, (blk_cell BK315.out 0).trans qc, (blk_cell BK315.out 1).trans qc, (blk_cell BK315.out 2).trans qc, (blk_cell BK315.out 35).trans qc, (blk_cell BK315.out 36).trans qc⟩ (fun hHeld => ?_); refine with_tabW uniform_Draw.tab5 uniform_Draw.bits5 (fun HT_ HW_ => ?_)
       generalize wr.drew = w24 at HO_316001 BK315 BK316 HB hHeld ⊢
       refine qQ 1 (some 23) (qt 12 2) (any_of HT_.out (by kernel_rfl)) ?_
       refine take_ (i := 0) (N := some 22) (v := ?_) (a' := ?_) (qt 12 3) rfl rfl (take_ofW HT_.out HW_.out (by kernel_rfl)) (fun _ _ _ h => h) (Or.inl ⟨by rfl, ?_⟩) hHeld ?_ ?_
       rotate_left
       ·rintro w' ⟨s0, s1, s2, s3, s4, s5⟩
        first | (refine (Ar.gload_run rfl Tryz.underlying39 rfl (D := (#[.int .i64 x316000_1, .slice Ao23 x316001_1.length co23, .int .u64 x316002_1] ++ ((Ar.cells .u8 32 x316003_1) ++ #[.int .u64 x316004_1, .int .u64 x316005_1]))) qz rfl (Ar.blk_part (by assumption) Ar.in_whole)).trans ?_; with_reducible rfl) | (go_simp; with_reducible rfl)
       rotate_left
       ·simp only [Act.put, zA_, zB_, zC_, i64_w, i32_w]
        rfl
       refine join_ (σ := Value × Nat) 3 (qt 12 511) (fun s_ => [(24, .int .i64 t318), (25, .tuple #[.int .u64 t319, .agg (#[.int .i64 t320, s_.1, .int .u64 t324] ++ ((Ar.cells .u8 32 t325) ++ #[.int .u64 t326, .int .u64 t327])), .int .i64 t328]), (10, .pointer (some ⟨s_.2, 0, none⟩)), (21, .tuple #[.int .u64 t319, .agg (#[.int .i64 t320, s_.1, .int .u64 t324] ++ ((Ar.cells .u8 32 t325) ++ #[.int .u64 t326, .int .u64 t327])), .int .i64 t328]), (26, .int .u64 t319), (27, .agg (#[.int .i64 t320, s_.1, .int .u64 t324] ++ ((Ar.cells .u8 32 t325) ++ #[.int .u64 t326, .int .u64 t327]))), (28, .int .i64 t328)]) (fun s_ w' => (w'.heap[gb315]? = some (.cells (#[.int .i64 x316000_1, .slice Ao23 x316001_1.length co23, .int .u64 x316002_1] ++ ((Ar.cells .u8 32 x316003_1) ++ #[.int .u64 x316004_1, .int .u64 x316005_1])) 39 (0, 0)) ∧ w'.cell? ⟨gb315, 0, none⟩ = some (.int .i64 x316000_1) ∧ w'.cell? ⟨gb315, 1, none⟩ = some (.slice Ao23 x316001_1.length co23) ∧ w'.cell? ⟨gb315, 2, none⟩ = some (.int .u64 x316002_1) ∧ w'.cell? ⟨gb315, 35, none⟩ = some (.int .u64 x316004_1) ∧ w'.cell? ⟨gb315, 36, none⟩ = some (.int .u64 x316005_1)) ∧ (Kd.V (Kd.int .u8) 5 w' w.heap.size (fun k_ => (P0_1_ k_ ∨ w.heap.size ≤ k_) ∧ k_ ≠ gb315 ∧ k_ ≠ gb316 ∧ k_ ≠ s_.2) s_.1 t321) ∧ (Kd.V (Kd.int .u8) 5 w' w.heap.size (fun k_ => (P0_1_ k_ ∨ w.heap.size ≤ k_) ∧ k_ ≠ gb315 ∧ k_ ≠ gb316 ∧ k_ ≠ s_.2) (.slice Ao23 x316001_1.length co23) x316001_1) ∧ (w'.heap[gb315]? = some (.cells (#[.int .i64 x316000_1, .slice Ao23 x316001_1.length co23, .int .u64 x316002_1] ++ ((Ar.cells .u8 32 x316003_1) ++ #[.int .u64 x316004_1, .int .u64 x316005_1])) 39 (0, 0))) ∧ (w'.heap[gb316]? = some (.cells (#[.int .i64 x317000_1, .slice none 0 0, .int .u64 x317002_1] ++ ((Ar.cells .u8 32 x317003_1) ++ #[.int .u64 x317004_1, .int .u64 x317005_1])) 39 (0, 0))) ∧ (w'.heap[s_.2]? = some (.cells (#[.int .i64 0, .slice none 0 0, .int .u64 0] ++ ((Ar.cells .u8 32 (List.replicate 32 0)) ++ #[.int .u64 0, .int .u64 0])) 39 (0, 0))) ∧ (w.heap.size ≤ s_.2) ∧ (w.heap.size ≤ s_.2) ∧ (gb315 ≠ s_.2) ∧ (s_.2 ≠ gb315) ∧ (gb316 ≠ s_.2) ∧ (s_.2 ≠ gb316) ∧ (Below w.heap.size w w')) ?_ ?_
       rotate_left
       ·intro hCont
        refine two_ (i := 2) (j := 8) (Ni := some 24) (Nj := some 10) (qt 12 7) (qt 12 259) rfl rfl rfl rfl (two_of HT_.out (by kernel_rfl)) (by decide) (by decide) (fun K hK => ?_) (fun K hK => ?_)
        ·skip
         refine goes_ Tryz.func70 (by kernel_rfl) rfl #[.int .u64 a1] (by rfl) rfl rfl ql ?_
         with_reducible refine (uniform_Need.calls k1 a1 t318 _ A10.out).mono ?_
         rintro e w25 ⟨rfl, hb⟩
         refine ⟨_, rfl, ?_⟩
         replace HO_316001 := Aside0.mk (Kd.V_below (qv HO_316001) hb)
         replace BK315 := Aside0.mk (qB BK315 hb)
         replace BK316 := Aside0.mk (qB BK316 hb)
         replace HB := Aside0.mk (below_step (qs HB) hb)
         (try clear hb)
         (try clear hb2)
         (try clear hk)
         (try clear hi)
         refine hK.out _ _ ⟨BK315.out, (blk_cell BK315.out 0).trans qc, (blk_cell BK315.out 1).trans qc, (blk_cell BK315.out 2).trans qc, (blk_cell BK315.out 35).trans qc, (blk_cell BK315.out 36).trans qc⟩ (fun hHeld => ?_)
         clear hK K
         refine norm_ (a' := ?_) ?_ ?_
         rotate_left
         ·show Act.put _ (some 24) _ = _
          simp only [Act.put, zA_, zB_, zC_, i64_w, i32_w]
          rfl
         refine two_ (i := 3) (j := 8) (Ni := some 25) (Nj := some 10) (qt 12 15) (qt 12 263) rfl rfl rfl rfl (two_of HT_.out (by kernel_rfl)) (by decide) (by decide) (fun K hK => ?_) (fun K hK => ?_)
         ·skip
          refine goes_ Tryz.func69 (by kernel_rfl) rfl #[.agg (#[.int .i64 x316000_1, .slice Ao23 x316001_1.length co23, .int .u64 x316002_1] ++ ((Ar.cells .u8 32 x316003_1) ++ #[.int .u64 x316004_1, .int .u64 x316005_1])), .int .i64 t318] (by rfl) rfl rfl ql ?_
          with_reducible refine (tape_Take.calls k1 x316000_1 (fun k_ => ((P0_1_ k_ ∨ w.heap.size ≤ k_) ∧ (k_ ≠ gb315 ∧ k_ ≠ gb316))) _ _ x316001_1 x316002_1 x316003_1 x316004_1 x316005_1 t318 t319 t320 t321 t324 t325 t326 t327 t328 _ ?side1 A11.out).mono ?_
          (case side1 => exact HO_316001.out)
          rintro e w26 ⟨v322, rfl, ho0, hb⟩
          refine ⟨_, rfl, ?_⟩
          replace HO_316001 := Aside0.mk (Kd.V_below (qv HO_316001) hb)
          have HO323 := Aside0.mk (Kd.V_lower (Kd.V_mono (ok' := fun k_ => (P0_1_ k_ ∨ w.heap.size ≤ k_) ∧ k_ ≠ gb315 ∧ k_ ≠ gb316) ho0 (fun k_ hk_ => ⟨Or.elim hk_ (fun hs_ => hs_.1) (fun hn_ => (.inr (Nat.le_trans (below_size (qs HB)) hn_))), Or.elim hk_ (fun hs_ => hs_.2.1) (fun hn_ => (Kd.freshB (g := gb315) (o := .cells (#[.int .i64 x316000_1, .slice Ao23 x316001_1.length co23, .int .u64 x316002_1] ++ ((Ar.cells .u8 32 x316003_1) ++ #[.int .u64 x316004_1, .int .u64 x316005_1])) 39 (0, 0)) (qb BK315) k_ hn_)), Or.elim hk_ (fun hs_ => hs_.2.2) (fun hn_ => (Kd.freshB (g := gb316) (o := .cells (#[.int .i64 x317000_1, .slice none 0 0, .int .u64 x317002_1] ++ ((Ar.cells .u8 32 x317003_1) ++ #[.int .u64 x317004_1, .int .u64 x317005_1])) 39 (0, 0)) (qb BK316) k_ hn_))⟩)) (below_size (qs HB)))
          replace BK315 := Aside0.mk (qB BK315 hb)
          replace BK316 := Aside0.mk (qB BK316 hb)
          replace HB := Aside0.mk (below_step (qs HB) hb)
          (try clear hb)
          (try clear hb2)
          (try clear hk)
          (try clear hi)
          (try clear ho0)
          refine hK.out _ _ ⟨BK315.out, (blk_cell BK315.out 0).trans qc, (blk_cell BK315.out 1).trans qc, (blk_cell BK315.out 2).trans qc, (blk_cell BK315.out 35).trans qc, (blk_cell BK315.out 36).trans qc⟩ (fun hHeld => ?_)
          clear hK K
          refine norm_ (a' := ?_) ?_ ?_
          rotate_left
          ·show Act.put _ (some 25) _ = _
           simp only [Act.put, zA_, zB_, zC_, i64_w, i32_w]
           rfl
          refine qQ 4 (some 21) (qt 12 31) (any_of HT_.out (by kernel_rfl)) ?_
          refine qQ 5 (some 26) (qt 12 63) (any_of HT_.out (by kernel_rfl)) ?_
          refine qQ 6 (some 27) (qt 12 127) (any_of HT_.out (by kernel_rfl)) ?_
          refine qQ 7 (some 28) (qt 12 255) (any_of HT_.out (by kernel_rfl)) ?_
          refine one_ (i := 8) (N := some 10) (qt 12 511) rfl rfl (one_of HT_.out (by kernel_rfl)) (by decide) (fun K hK => ?_)
          refine box_step ?hg (N := 10) ?hd (cs := (#[.int .i64 0, .slice none 0 0, .int .u64 0] ++ ((Ar.cells .u8 32 (List.replicate 32 0)) ++ #[.int .u64 0, .int .u64 0]))) (t := 39) ?hr ?_; (case hd => rfl); (case hg => rfl); (case hr => first | exact Ar.gbox_run rfl rfl | exact Ar.galloc_run rfl (by kernel_rfl) | (go_simp; done) | (go_simp; rfl))
          intro gb329 hg w27 hbox hb
          replace HO_316001 := Aside0.mk (Kd.V_below (Kd.V_elderB (qv HO_316001) gb329 (Nat.le_of_eq hg.symm)) hb)
          replace HO323 := Aside0.mk (Kd.V_below (Kd.V_elderB (qv HO323) gb329 (Nat.le_of_eq hg.symm)) hb)
          have BK329 := Aside0.mk (hbox)
          have GW329 := Aside0.mk (qe HB hg)
          have GE329 := Aside0.mk (qe HB hg)
          replace HB := Aside0.mk (below_step (qs HB) hb)
          have NB315_329 := Aside0.mk (qu BK315 hg)
          have NB329_315 := Aside0.mk (qw BK315 hg)
          replace BK315 := Aside0.mk (qB BK315 hb)
          have NB316_329 := Aside0.mk (qu BK316 hg)
          have NB329_316 := Aside0.mk (qw BK316 hg)
          replace BK316 := Aside0.mk (qB BK316 hb)
          clear hb hbox hg
          refine hK.out _ _ ⟨BK315.out, (blk_cell BK315.out 0).trans qc, (blk_cell BK315.out 1).trans qc, (blk_cell BK315.out 2).trans qc, (blk_cell BK315.out 35).trans qc, (blk_cell BK315.out 36).trans qc⟩ (fun hHeld => ?_)
          clear hK K
          refine norm_ (a' := ?_) ?_ ?_
          rotate_left
          ·show Act.put _ (some 10) _ = _
           simp only [Act.put, zA_, zB_, zC_, i64_w, i32_w]
           rfl
          exact norm_ (by simp only [putAll, Act.put, zA_, zB_, zC_]) (hCont (v322, gb329) _ ⟨hHeld, (by (with_reducible repeat (first | apply Kd.V_alloc | apply Kd.V_drewN | apply Kd.V_drew)); exact Kd.V_mono HO323.out (fun _ hk => ⟨hk.1.1, ⟨hk.1.2.1, ⟨hk.1.2.2, hk.2⟩⟩⟩)), (by (with_reducible repeat (first | apply Kd.V_alloc | apply Kd.V_drewN | apply Kd.V_drew)); exact Kd.V_mono HO_316001.out (fun _ hk => ⟨hk.1.1, ⟨hk.1.2.1, ⟨hk.1.2.2, hk.2⟩⟩⟩)), (qb BK315), (qb BK316), (qb BK329), GW329.out, GE329.out, NB315_329.out, NB329_315.out, NB316_329.out, NB329_316.out, (qs HB)⟩)
         ·skip
          refine box_step ?hg (N := 10) ?hd (cs := (#[.int .i64 0, .slice none 0 0, .int .u64 0] ++ ((Ar.cells .u8 32 (List.replicate 32 0)) ++ #[.int .u64 0, .int .u64 0]))) (t := 39) ?hr ?_; (case hd => rfl); (case hg => rfl); (case hr => first | exact Ar.gbox_run rfl rfl | exact Ar.galloc_run rfl (by kernel_rfl) | (go_simp; done) | (go_simp; rfl))
          intro gb329 hg w26 hbox hb
          replace HO_316001 := Aside0.mk (Kd.V_below (Kd.V_elderB (qv HO_316001) gb329 (Nat.le_of_eq hg.symm)) hb)
          have BK329 := Aside0.mk (hbox)
          have GW329 := Aside0.mk (qe HB hg)
          have GE329 := Aside0.mk (qe HB hg)
          replace HB := Aside0.mk (below_step (qs HB) hb)
          have NB315_329 := Aside0.mk (qu BK315 hg)
          have NB329_315 := Aside0.mk (qw BK315 hg)
          replace BK315 := Aside0.mk (qB BK315 hb)
          have NB316_329 := Aside0.mk (qu BK316 hg)
          have NB329_316 := Aside0.mk (qw BK316 hg)
          replace BK316 := Aside0.mk (qB BK316 hb)
          clear hb hbox hg
          refine hK.out _ _ ⟨BK315.out, (blk_cell BK315.out 0).trans qc, (blk_cell BK315.out 1).trans qc, (blk_cell BK315.out 2).trans qc, (blk_cell BK315.out 35).trans qc, (blk_cell BK315.out 36).trans qc⟩ (fun hHeld => ?_)
          clear hK K
          refine norm_ (a' := ?_) ?_ ?_
          rotate_left
          ·show Act.put _ (some 10) _ = _
           simp only [Act.put, zA_, zB_, zC_, i64_w, i32_w]
           rfl
          refine one_ (i := 3) (N := some 25) (qt 12 271) rfl rfl (one_of HT_.out (by kernel_rfl)) (by decide) (fun K hK => ?_)
          refine goes_ Tryz.func69 (by kernel_rfl) rfl #[.agg (#[.int .i64 x316000_1, .slice Ao23 x316001_1.length co23, .int .u64 x316002_1] ++ ((Ar.cells .u8 32 x316003_1) ++ #[.int .u64 x316004_1, .int .u64 x316005_1])), .int .i64 t318] (by rfl) rfl rfl ql ?_
          with_reducible refine (tape_Take.calls k1 x316000_1 (fun k_ => (((P0_1_ k_ ∨ w.heap.size ≤ k_) ∧ (k_ ≠ gb315 ∧ k_ ≠ gb316)) ∧ k_ ≠ gb329)) _ _ x316001_1 x316002_1 x316003_1 x316004_1 x316005_1 t318 t319 t320 t321 t324 t325 t326 t327 t328 _ ?side1 A11.out).mono ?_
          (case side1 => exact HO_316001.out)
          rintro e w27 ⟨v322, rfl, ho0, hb⟩
          refine ⟨_, rfl, ?_⟩
          replace HO_316001 := Aside0.mk (Kd.V_below (qv HO_316001) hb)
          have HO323 := Aside0.mk (Kd.V_lower (Kd.V_mono (ok' := fun k_ => (P0_1_ k_ ∨ w.heap.size ≤ k_) ∧ k_ ≠ gb315 ∧ k_ ≠ gb316 ∧ k_ ≠ gb329) ho0 (fun k_ hk_ => ⟨Or.elim hk_ (fun hs_ => hs_.1.1) (fun hn_ => (.inr (Nat.le_trans (below_size (qs HB)) hn_))), Or.elim hk_ (fun hs_ => hs_.1.2.1) (fun hn_ => (Kd.freshB (g := gb315) (o := .cells (#[.int .i64 x316000_1, .slice Ao23 x316001_1.length co23, .int .u64 x316002_1] ++ ((Ar.cells .u8 32 x316003_1) ++ #[.int .u64 x316004_1, .int .u64 x316005_1])) 39 (0, 0)) (qb BK315) k_ hn_)), Or.elim hk_ (fun hs_ => hs_.1.2.2) (fun hn_ => (Kd.freshB (g := gb316) (o := .cells (#[.int .i64 x317000_1, .slice none 0 0, .int .u64 x317002_1] ++ ((Ar.cells .u8 32 x317003_1) ++ #[.int .u64 x317004_1, .int .u64 x317005_1])) 39 (0, 0)) (qb BK316) k_ hn_)), Or.elim hk_ (fun hs_ => hs_.2) (fun hn_ => (Kd.freshB (g := gb329) (o := .cells (#[.int .i64 0, .slice none 0 0, .int .u64 0] ++ ((Ar.cells .u8 32 (List.replicate 32 0)) ++ #[.int .u64 0, .int .u64 0])) 39 (0, 0)) (qb BK329) k_ hn_))⟩)) (below_size (qs HB)))
          replace BK315 := Aside0.mk (qB BK315 hb)
          replace BK316 := Aside0.mk (qB BK316 hb)
          replace BK329 := Aside0.mk (qB BK329 hb)
          replace HB := Aside0.mk (below_step (qs HB) hb)
          (try clear hb)
          (try clear hb2)
          (try clear hk)
          (try clear hi)
          (try clear ho0)
          refine hK.out _ _ ⟨BK315.out, (blk_cell BK315.out 0).trans qc, (blk_cell BK315.out 1).trans qc, (blk_cell BK315.out 2).trans qc, (blk_cell BK315.out 35).trans qc, (blk_cell BK315.out 36).trans qc⟩ (fun hHeld => ?_)
          clear hK K
          refine norm_ (a' := ?_) ?_ ?_
          rotate_left
          ·show Act.put _ (some 25) _ = _
           simp only [Act.put, zA_, zB_, zC_, i64_w, i32_w]
           rfl
          refine qQ 4 (some 21) (qt 12 287) (any_of HT_.out (by kernel_rfl)) ?_
          refine qQ 5 (some 26) (qt 12 319) (any_of HT_.out (by kernel_rfl)) ?_
          refine qQ 6 (some 27) (qt 12 383) (any_of HT_.out (by kernel_rfl)) ?_
          refine qQ 7 (some 28) (qt 12 511) (any_of HT_.out (by kernel_rfl)) ?_
          exact norm_ (by simp only [putAll, Act.put, zA_, zB_, zC_]) (hCont (v322, gb329) _ ⟨hHeld, (qv HO323), (by (with_reducible repeat (first | apply Kd.V_alloc | apply Kd.V_drewN | apply Kd.V_drew)); exact Kd.V_mono HO_316001.out (fun _ hk => ⟨hk.1.1, ⟨hk.1.2.1, ⟨hk.1.2.2, hk.2⟩⟩⟩)), (qb BK315), (qb BK316), (qb BK329), GW329.out, GE329.out, NB315_329.out, NB329_315.out, NB316_329.out, NB329_316.out, (qs HB)⟩)
        ·skip
         refine box_step ?hg (N := 10) ?hd (cs := (#[.int .i64 0, .slice none 0 0, .int .u64 0] ++ ((Ar.cells .u8 32 (List.replicate 32 0)) ++ #[.int .u64 0, .int .u64 0]))) (t := 39) ?hr ?_; (case hd => rfl); (case hg => rfl); (case hr => first | exact Ar.gbox_run rfl rfl | exact Ar.galloc_run rfl (by kernel_rfl) | (go_simp; done) | (go_simp; rfl))
         intro gb329 hg w25 hbox hb
         replace HO_316001 := Aside0.mk (Kd.V_below (Kd.V_elderB (qv HO_316001) gb329 (Nat.le_of_eq hg.symm)) hb)
         have BK329 := Aside0.mk (hbox)
         have GW329 := Aside0.mk (qe HB hg)
         have GE329 := Aside0.mk (qe HB hg)
         replace HB := Aside0.mk (below_step (qs HB) hb)
         have NB315_329 := Aside0.mk (qu BK315 hg)
         have NB329_315 := Aside0.mk (qw BK315 hg)
         replace BK315 := Aside0.mk (qB BK315 hb)
         have NB316_329 := Aside0.mk (qu BK316 hg)
         have NB329_316 := Aside0.mk (qw BK316 hg)
         replace BK316 := Aside0.mk (qB BK316 hb)
         clear hb hbox hg
         refine hK.out _ _ ⟨BK315.out, (blk_cell BK315.out 0).trans qc, (blk_cell BK315.out 1).trans qc, (blk_cell BK315.out 2).trans qc, (blk_cell BK315.out 35).trans qc, (blk_cell BK315.out 36).trans qc⟩ (fun hHeld => ?_)
         clear hK K
         refine norm_ (a' := ?_) ?_ ?_
         rotate_left
         ·show Act.put _ (some 10) _ = _
          simp only [Act.put, zA_, zB_, zC_, i64_w, i32_w]
          rfl
         refine one_ (i := 2) (N := some 24) (qt 12 263) rfl rfl (one_of HT_.out (by kernel_rfl)) (by decide) (fun K hK => ?_)
         refine goes_ Tryz.func70 (by kernel_rfl) rfl #[.int .u64 a1] (by rfl) rfl rfl ql ?_
         with_reducible refine (uniform_Need.calls k1 a1 t318 _ A10.out).mono ?_
         rintro e w26 ⟨rfl, hb⟩
         refine ⟨_, rfl, ?_⟩
         replace HO_316001 := Aside0.mk (Kd.V_below (qv HO_316001) hb)
         replace BK315 := Aside0.mk (qB BK315 hb)
         replace BK316 := Aside0.mk (qB BK316 hb)
         replace BK329 := Aside0.mk (qB BK329 hb)
         replace HB := Aside0.mk (below_step (qs HB) hb)
         (try clear hb)
         (try clear hb2)
         (try clear hk)
         (try clear hi)
         refine hK.out _ _ ⟨BK315.out, (blk_cell BK315.out 0).trans qc, (blk_cell BK315.out 1).trans qc, (blk_cell BK315.out 2).trans qc, (blk_cell BK315.out 35).trans qc, (blk_cell BK315.out 36).trans qc⟩ (fun hHeld => ?_)
         clear hK K
         refine norm_ (a' := ?_) ?_ ?_
         rotate_left
         ·show Act.put _ (some 24) _ = _
          simp only [Act.put, zA_, zB_, zC_, i64_w, i32_w]
          rfl
         refine one_ (i := 3) (N := some 25) (qt 12 271) rfl rfl (one_of HT_.out (by kernel_rfl)) (by decide) (fun K hK => ?_)
         refine goes_ Tryz.func69 (by kernel_rfl) rfl #[.agg (#[.int .i64 x316000_1, .slice Ao23 x316001_1.length co23, .int .u64 x316002_1] ++ ((Ar.cells .u8 32 x316003_1) ++ #[.int .u64 x316004_1, .int .u64 x316005_1])), .int .i64 t318] (by rfl) rfl rfl ql ?_
         with_reducible refine (tape_Take.calls k1 x316000_1 (fun k_ => (((P0_1_ k_ ∨ w.heap.size ≤ k_) ∧ (k_ ≠ gb315 ∧ k_ ≠ gb316)) ∧ k_ ≠ gb329)) _ _ x316001_1 x316002_1 x316003_1 x316004_1 x316005_1 t318 t319 t320 t321 t324 t325 t326 t327 t328 _ ?side1 A11.out).mono ?_
         (case side1 => exact HO_316001.out)
         rintro e w27 ⟨v322, rfl, ho0, hb⟩
         refine ⟨_, rfl, ?_⟩
         replace HO_316001 := Aside0.mk (Kd.V_below (qv HO_316001) hb)
         have HO323 := Aside0.mk (Kd.V_lower (Kd.V_mono (ok' := fun k_ => (P0_1_ k_ ∨ w.heap.size ≤ k_) ∧ k_ ≠ gb315 ∧ k_ ≠ gb316 ∧ k_ ≠ gb329) ho0 (fun k_ hk_ => ⟨Or.elim hk_ (fun hs_ => hs_.1.1) (fun hn_ => (.inr (Nat.le_trans (below_size (qs HB)) hn_))), Or.elim hk_ (fun hs_ => hs_.1.2.1) (fun hn_ => (Kd.freshB (g := gb315) (o := .cells (#[.int .i64 x316000_1, .slice Ao23 x316001_1.length co23, .int .u64 x316002_1] ++ ((Ar.cells .u8 32 x316003_1) ++ #[.int .u64 x316004_1, .int .u64 x316005_1])) 39 (0, 0)) (qb BK315) k_ hn_)), Or.elim hk_ (fun hs_ => hs_.1.2.2) (fun hn_ => (Kd.freshB (g := gb316) (o := .cells (#[.int .i64 x317000_1, .slice none 0 0, .int .u64 x317002_1] ++ ((Ar.cells .u8 32 x317003_1) ++ #[.int .u64 x317004_1, .int .u64 x317005_1])) 39 (0, 0)) (qb BK316) k_ hn_)), Or.elim hk_ (fun hs_ => hs_.2) (fun hn_ => (Kd.freshB (g := gb329) (o := .cells (#[.int .i64 0, .slice none 0 0, .int .u64 0] ++ ((Ar.cells .u8 32 (List.replicate 32 0)) ++ #[.int .u64 0, .int .u64 0])) 39 (0, 0)) (qb BK329) k_ hn_))⟩)) (below_size (qs HB)))
         replace BK315 := Aside0.mk (qB BK315 hb)
         replace BK316 := Aside0.mk (qB BK316 hb)
         replace BK329 := Aside0.mk (qB BK329 hb)
         replace HB := Aside0.mk (below_step (qs HB) hb)
         (try clear hb)
         (try clear hb2)
         (try clear hk)
         (try clear hi)
         (try clear ho0)
         refine hK.out _ _ ⟨BK315.out, (blk_cell BK315.out 0).trans qc, (blk_cell BK315.out 1).trans qc, (blk_cell BK315.out 2).trans qc, (blk_cell BK315.out 35).trans qc, (blk_cell BK315.out 36).trans qc⟩ (fun hHeld => ?_)
         clear hK K
         refine norm_ (a' := ?_) ?_ ?_
         rotate_left
         ·show Act.put _ (some 25) _ = _
          simp only [Act.put, zA_, zB_, zC_, i64_w, i32_w]
          rfl
         refine qQ 4 (some 21) (qt 12 287) (any_of HT_.out (by kernel_rfl)) ?_
         refine qQ 5 (some 26) (qt 12 319) (any_of HT_.out (by kernel_rfl)) ?_
         refine qQ 6 (some 27) (qt 12 383) (any_of HT_.out (by kernel_rfl)) ?_
         refine qQ 7 (some 28) (qt 12 511) (any_of HT_.out (by kernel_rfl)) ?_
         exact norm_ (by simp only [putAll, Act.put, zA_, zB_, zC_]) (hCont (v322, gb329) _ ⟨hHeld, (qv HO323), (by (with_reducible repeat (first | apply Kd.V_alloc | apply Kd.V_drewN | apply Kd.V_drew)); exact Kd.V_mono HO_316001.out (fun _ hk => ⟨hk.1.1, ⟨hk.1.2.1, ⟨hk.1.2.2, hk.2⟩⟩⟩)), (qb BK315), (qb BK316), (qb BK329), GW329.out, GE329.out, NB315_329.out, NB329_315.out, NB316_329.out, NB329_316.out, (qs HB)⟩)
       rintro ⟨v322, gb329⟩ w28 ⟨hS_, h0_, h1_, h2_, h3_, h4_, h5_, h6_, h7_, h8_, h9_, h10_, h11_⟩
       have n0_ : Aside0 (Kd.V (Kd.int .u8) 5 w28 w.heap.size (fun k_ => (P0_1_ k_ ∨ w.heap.size ≤ k_) ∧ k_ ≠ gb315 ∧ k_ ≠ gb316 ∧ k_ ≠ gb329) v322 t321) := ⟨h0_⟩
       have n1_ : Aside0 (Kd.V (Kd.int .u8) 5 w28 w.heap.size (fun k_ => (P0_1_ k_ ∨ w.heap.size ≤ k_) ∧ k_ ≠ gb315 ∧ k_ ≠ gb316 ∧ k_ ≠ gb329) (.slice Ao23 x316001_1.length co23) x316001_1) := ⟨h1_⟩
       have n2_ : Aside0 (w28.heap[gb315]? = some (.cells (#[.int .i64 x316000_1, .slice Ao23 x316001_1.length co23, .int .u64 x316002_1] ++ ((Ar.cells .u8 32 x316003_1) ++ #[.int .u64 x316004_1, .int .u64 x316005_1])) 39 (0, 0))) := ⟨h2_⟩
       have n3_ : Aside0 (w28.heap[gb316]? = some (.cells (#[.int .i64 x317000_1, .slice none 0 0, .int .u64 x317002_1] ++ ((Ar.cells .u8 32 x317003_1) ++ #[.int .u64 x317004_1, .int .u64 x317005_1])) 39 (0, 0))) := ⟨h3_⟩
       have n4_ : Aside0 (w28.heap[gb329]? = some (.cells (#[.int .i64 0, .slice none 0 0, .int .u64 0] ++ ((Ar.cells .u8 32 (List.replicate 32 0)) ++ #[.int .u64 0, .int .u64 0])) 39 (0, 0))) := ⟨h4_⟩
       have n5_ : Aside0 (w.heap.size ≤ gb329) := ⟨h5_⟩
       have n6_ : Aside0 (w.heap.size ≤ gb329) := ⟨h6_⟩
       have n7_ : Aside0 (gb315 ≠ gb329) := ⟨h7_⟩
       have n8_ : Aside0 (gb329 ≠ gb315) := ⟨h8_⟩
       have n9_ : Aside0 (gb316 ≠ gb329) := ⟨h9_⟩
       have n10_ : Aside0 (gb329 ≠ gb316) := ⟨h10_⟩
       have n11_ : Aside0 (Below w.heap.size w w28) := ⟨h11_⟩
       clear HO_316001 BK315 BK316 HB h0_ h1_ h2_ h3_ h4_ h5_ h6_ h7_ h8_ h9_ h10_ h11_
       have HO323 := n0_
       have HO_316001 := n1_
       have BK315 := n2_
       have BK316 := n3_
       have BK329 := n4_
       have GW329 := n5_
       have GE329 := n6_
       have NB315_329 := n7_
       have NB329_315 := n8_
       have NB316_329 := n9_
       have NB329_316 := n10_
       have HB := n11_
       clear n0_ n1_ n2_ n3_ n4_ n5_ n6_ n7_ n8_ n9_ n10_ n11_
       have hHeld : w28.heap[gb315]? = some (.cells (#[.int .i64 x316000_1, .slice Ao23 x316001_1.length co23, .int .u64 x316002_1] ++ ((Ar.cells .u8 32 x316003_1) ++ #[.int .u64 x316004_1, .int .u64 x316005_1])) 39 (0, 0)) ∧ w28.cell? ⟨gb315, 0, none⟩ = some (.int .i64 x316000_1) ∧ w28.cell? ⟨gb315, 1, none⟩ = some (.slice Ao23 x316001_1.length co23) ∧ w28.cell? ⟨gb315, 2, none⟩ = some (.int .u64 x316002_1) ∧ w28.cell? ⟨gb315, 35, none⟩ = some (.int .u64 x316004_1) ∧ w28.cell? ⟨gb315, 36, none⟩ = some (.int .u64 x316005_1) := hS_
       refine norm_ (a' := ?_) ?_ ?_
       rotate_left
       ·simp only [putAll, Act.put, zA_, zB_, zC_]
        rfl
       refine qQ 9 (some 9) (qt 12 1023) (any_of HT_.out (by kernel_rfl)) ?_
       refine one_ (i := 10) (N := none) (qt 12 2047) rfl rfl (one_of HT_.out (by kernel_rfl)) (by decide) (fun K hK => ?_)
       refine Ar.gstore_step (by rfl) rfl rfl (D := (#[.int .i64 t320, v322, .int .u64 t324] ++ ((Ar.cells .u8 32 t325) ++ #[.int .u64 t326, .int .u64 t327]))) qz (g := gb329) rfl qg (qb BK329) (by simp [Ar.cells_size]) (by repeat (first | (with_reducible refine Ar.all_app ?_ ?_) | (with_reducible exact Ar.cells_one _ _ _) | (focus (simp [Value.oneCell']; done)) | (focus (simp [(show (v322 : Value).oneCell' = true from by (have e_ := Kd.V_slice HO323.out; obtain ⟨_, _, e_⟩ := e_; rw [e_]; rfl))]; first | done | rfl | (repeat' constructor))) | rfl)) ?_; intro w29 hbk_ hg
       replace HO_316001 := Aside0.mk (Kd.V_grown (qv HO_316001) hg (by intro k_ hk e_; exact (hk.2.2.2) (Option.some.inj e_)))
       replace BK315 := Aside0.mk (qG BK315 hg (fun e_ => NB315_329.out (Option.some.inj e_)))
       replace BK316 := Aside0.mk (qG BK316 hg (fun e_ => NB316_329.out (Option.some.inj e_)))
       replace HO323 := Aside0.mk (Kd.V_grown (qv HO323) hg (by intro k_ hk e_; exact (hk.2.2.2) (Option.some.inj e_)))
       replace BK329 := Aside0.mk (hbk_)
       replace HB := Aside0.mk (Below.grown (qs HB) hg ((below_size (qs HB))) (fun _ e_ => by cases e_; exact GE329.out))
       clear hbk_ hg
       refine hK.out _ _ ⟨BK315.out, (blk_cell BK315.out 0).trans qc, (blk_cell BK315.out 1).trans qc, (blk_cell BK315.out 2).trans qc, (blk_cell BK315.out 35).trans qc, (blk_cell BK315.out 36).trans qc⟩ (fun hHeld => ?_)
       clear hK K
       refine qQ 11 (some 11) (qt 12 4095) (any_of HT_.out (by kernel_rfl)) ?_
       refine done_ (done_of HT_.out (by kernel_rfl)) ?_
       obtain ⟨Ao30, co30, eo30⟩ := Kd.V_slice HO323.out
       subst eo30
       try go_wp2_with (first | ((with_reducible refine qd 40 ?_); (try (refine gate_guard (by rfl) ?_; dsimp only)); refine Ar.gload_event rfl (T := 39) rfl Tryz.underlying39 rfl (D := (#[.int .i64 t320, .slice Ao30 t321.length co30, .int .u64 t324] ++ ((Ar.cells .u8 32 t325) ++ #[.int .u64 t326, .int .u64 t327]))) qz (A := ⟨gb329, 0, none⟩) rfl (Ar.blk_part (qb BK329) Ar.in_whole) ?_) | ((with_reducible refine gate_store (t := 39) (p := 3) rfl ?_); refine Ar.gstore_event rfl rfl rfl (D := (#[.int .i64 t320, .slice Ao30 t321.length co30, .int .u64 t324] ++ ((Ar.cells .u8 32 t325) ++ #[.int .u64 t326, .int .u64 t327]))) qz (g := gb315) rfl qg (qb BK315) (by simp [Ar.cells_size]) (by repeat (first | (with_reducible refine Ar.all_app ?_ ?_) | (with_reducible exact Ar.cells_one _ _ _) | (focus (simp [Value.oneCell']; done)) | rfl)) ?_; intro w31 hbk_ hg; replace HO_316001 := Aside0.mk (Kd.V_grown (qv HO_316001) hg (by intro k_ hk e_; exact (hk.2.1) (Option.some.inj e_))); replace BK316 := Aside0.mk (qG BK316 hg (fun e_ => NB316_315.out (Option.some.inj e_))); replace HO323 := Aside0.mk (Kd.V_grown (qv HO323) hg (by intro k_ hk e_; exact (hk.2.1) (Option.some.inj e_))); replace BK329 := Aside0.mk (qG BK329 hg (fun e_ => NB329_315.out (Option.some.inj e_))); replace BK315 := Aside0.mk (hbk_); replace HB := Aside0.mk (Below.grown (qs HB) hg ((below_size (qs HB))) (fun _ e_ => by cases e_; exact GE315.out)); clear hbk_ hg))
       go_roundg k1
       case measure => have := HK1.out; omega
       case rel => exact ⟨(wrap64 (x19_1 + 1)), (t320), (t321), (t324), (t325), (t326), (t327), (x317000_1), (x317002_1), (x317003_1), (x317004_1), (x317005_1), (.slice Ao30 t321.length co30), (by first | rfl | (simp; done) | (simp [*]; done)), H', ⟨by have := HK1.out; omega⟩, ⟨by (with_reducible repeat (first | apply Kd.V_alloc | apply Kd.V_drewN | apply Kd.V_drew)); exact Kd.V_mono HO323.out (fun _ hk => ⟨hk.1, ⟨hk.2.1, hk.2.2.1⟩⟩)⟩, ⟨(qb BK315)⟩, ⟨(qb BK316)⟩, ⟨(qs HB)⟩⟩
     ·rw [if_neg c12] at H
      exact absurd H (by simp)
    ·rw [if_neg c9] at H
     exact absurd H (by simp)
 ·replace c5 := Bool.eq_false_iff.mpr c5
  subst c5
  have H1 : (none) = some (r1, r2, r3, r4, r5, r6, r7, r8) := by rw [if_neg (show ¬ (false = true) by decide)] at H; exact H
  clear H
  have H := H1
  clear H1
  exact absurd H (by simp)
end Go.Proofs.YtekmngghebpciaaGreat.PW
end
section
namespace Go.Proofs.YtekmngghebpciaaGreat.PW
open Go.RowKit Go.Proofs.YtekmngghebpciaaGreatW.PrintWords Go.Proofs.YtekmngghebpciaaGreatW.PrintLast Go.Proofs.YtekmngghebpciaaGreatW.PrintMore
attribute [local go_sem] max2_int min2_int max_two min_two max_three min_three max_four min_four
set_option linter.unusedVariables false
set_option linter.unusedSimpArgs false
def lead_Draw.f (k : Nat) (l0_0 : List Int) (a1_0 : Int) (l1_1 : List Int) (a1_2 : Int) (a1_3 : List Int) (a1_4 : Int) (a1_5 : Int) (a2 : Int) : Option (Int × Int × List Int × Int × List Int × Int × Int × Int) := (fen_Total.f k l0_0).bind fun t333 => (if t333 = 0 then (none) else ((uniform_Draw.f k a1_0 l1_1 a1_2 a1_3 a1_4 a1_5 t333 a2).bind fun bt334 => (if bt334.2.2.2.2.2.2.2 = 0 then ((fen_Owner.f k l0_0 bt334.1).bind fun bt345 => (some (bt345.1, bt334.2.1, bt334.2.2.1, bt334.2.2.2.1, bt334.2.2.2.2.1, bt334.2.2.2.2.2.1, bt334.2.2.2.2.2.2.1, bt345.2))) else (none))))
theorem lead_Draw.mono : ∀ a0 a1 a2 a3 a4 a5 a6 a7 k, LeO (lead_Draw.f k a0 a1 a2 a3 a4 a5 a6 a7) (lead_Draw.f (k + 1) a0 a1 a2 a3 a4 a5 a6 a7) := by
 intro a0 a1 a2 a3 a4 a5 a6 a7 k
 unfold lead_Draw.f
 repeat' first
   | (with_reducible exact fen_Owner.mono _ _ _)
   | (with_reducible exact fen_Total.mono _ _)
   | (with_reducible exact uniform_Draw.mono _ _ _ _ _ _ _ _ _)
   | (with_reducible exact LeO.refl _)
   | (with_reducible exact LeO.none _)
   | (with_reducible refine LeO.ite ?_ ?_)
   | (with_reducible refine LeO.bind ?_ (fun _ => ?_))
   | exact fen_Owner.mono _ _ _
   | exact fen_Total.mono _ _
   | exact uniform_Draw.mono _ _ _ _ _ _ _ _ _
   | exact LeO.none _
   | refine LeO.ite ?_ ?_
   | refine LeO.bind ?_ (fun _ => ?_)
set_option maxHeartbeats 8000000 in
set_option maxRecDepth 100000 in
theorem lead_Draw.calls (k : Nat) (A0_0 : Option Addr) (c0_0 : Nat) (l0_0 : List Int) (a1_0 : Int) (P1_1_ : Nat → Prop) (A1_1 : Option Addr) (c1_1 : Nat) (l1_1 : List Int) (a1_2 : Int) (a1_3 : List Int) (a1_4 : Int) (a1_5 : Int) (a2 : Int) (r1 : Int) (r2 : Int) (r3 : List Int) (r4 : Int) (r5 : List Int) (r6 : Int) (r7 : Int) (r8 : Int) (w : World) (hr0_0 : Kd.C (Kd.int .u64) w A0_0 l0_0.length l0_0) (hc0_0 : l0_0.length ≤ c0_0) (hs1_1 : Kd.V (Kd.int .u8) 5 w w.heap.size (fun k_ => P1_1_ k_) (.slice A1_1 l1_1.length c1_1) l1_1) (h : lead_Draw.f k l0_0 a1_0 l1_1 a1_2 a1_3 a1_4 a1_5 a2 = some (r1, r2, r3, r4, r5, r6, r7, r8)) :
  Calls Tryz.prog 23 #[.agg #[.slice A0_0 l0_0.length c0_0], .agg (#[.int .i64 a1_0, .slice A1_1 l1_1.length c1_1, .int .u64 a1_2] ++ (Ar.cells .u8 32 a1_3 ++ #[.int .u64 a1_4, .int .u64 a1_5])), .int .i64 a2] w fun e w' => ∃ v2_ : Value, e = .returned (.tuple #[.int .i64 r1, .agg (#[.int .i64 r2, v2_, .int .u64 r4] ++ (Ar.cells .u8 32 r5 ++ #[.int .u64 r6, .int .u64 r7])), .int .i64 r8]) ∧ Kd.V (Kd.int .u8) 5 w' w.heap.size (fun k_ => (P1_1_ k_ ∨ w.heap.size ≤ k_)) v2_ r3 ∧ Below w.heap.size w w' := by
 have hu54 := Tryz.underlying54
 have hu39 := Tryz.underlying39
 have HR0_0 := Aside0.mk hr0_0
 have HC0_0 := Aside0.mk hc0_0
 clear hr0_0 hc0_0
 have HO1_1 := Aside0.mk (show Kd.V (Kd.int .u8) 5 w w.heap.size (fun k_ => (P1_1_ k_ ∨ w.heap.size ≤ k_)) (.slice A1_1 l1_1.length c1_1) l1_1 from Kd.V_mono hs1_1 (fun k_ hk => .inl hk))
 have HB := Aside0.mk (Below.refl w.heap.size w)
 have H : ((fen_Total.f k l0_0).bind fun t333 => (if t333 = 0 then (none) else ((uniform_Draw.f k a1_0 l1_1 a1_2 a1_3 a1_4 a1_5 t333 a2).bind fun bt334 => (if bt334.2.2.2.2.2.2.2 = 0 then ((fen_Owner.f k l0_0 bt334.1).bind fun bt345 => (some (bt345.1, bt334.2.1, bt334.2.2.1, bt334.2.2.2.1, bt334.2.2.2.2.1, bt334.2.2.2.2.2.1, bt334.2.2.2.2.2.2.1, bt345.2))) else (none))))) = some (r1, r2, r3, r4, r5, r6, r7, r8) := h
 clear h
 replace H := Option.bind_eq_some_iff.mp H
 obtain ⟨t333, A40, H⟩ := H
 try dsimp only at H
 have A4 := Aside0.mk A40
 clear A40
 by_cases c5 : t333 = 0
 ·rw [if_pos c5] at H
  exact absurd H (by simp)
 ·rw [if_neg c5] at H
  have c5b0 : (t333 == 0) = false := beq_eq_false_iff_ne.mpr c5
  have c5b1 : (t333 != 0) = true := bne_iff_ne.mpr c5
  replace H := Option.bind_eq_some_iff.mp H
  obtain ⟨⟨t334, t335, t336, t339, t340, t341, t342, t343⟩, A60, H⟩ := H
  try dsimp only at H
  have A6 := Aside0.mk A60
  clear A60
  by_cases c7 : t343 = 0
  ·rw [if_pos c7] at H
   have c7b0 : (t343 == 0) = true := beq_iff_eq.mpr c7
   have c7b1 : (t343 != 0) = false := bne_eq_false_iff_eq.mpr c7
   clear c7
   replace H := Option.bind_eq_some_iff.mp H
   obtain ⟨⟨t345, t346⟩, A80, H⟩ := H
   try dsimp only at H
   have A8 := Aside0.mk A80
   clear A80
   simp only [Option.some.injEq, Prod.mk.injEq] at H
   obtain ⟨rfl, rfl, rfl, rfl, rfl, rfl, rfl, rfl⟩ := H
   go_enter Tryz.func23, Tryz.ntmps23
   try go_wp2_with (first | ((with_reducible refine qd 3 ?_); refine box_event ?hg (N := 3) ?hd (cs := #[.slice A0_0 l0_0.length c0_0]) (t := 54) ?hr ?_; (case hd => rfl); (case hg => rfl); (case hr => first | (go_simp; done) | (go_simp; rfl)); intro gb330 hg w9 hbox hb; replace HO1_1 := Aside0.mk (Kd.V_below (Kd.V_elderB (qv HO1_1) gb330 (Nat.le_of_eq hg.symm)) hb); have BK330 := Aside0.mk (hbox); have GW330 := Aside0.mk (qe HB hg); have GE330 := Aside0.mk (qe HB hg); replace HB := Aside0.mk (below_step (qs HB) hb); clear hb hbox hg) | ((with_reducible refine qd 4 ?_); (try (refine gate_guard (by rfl) ?_; dsimp only)); refine qF (N := 4) (cs := (#[.int .i64 a1_0, .slice A1_1 l1_1.length c1_1, .int .u64 a1_2] ++ ((Ar.cells .u8 32 a1_3) ++ #[.int .u64 a1_4, .int .u64 a1_5]))) (t := 39) ?_; intro gb331 hg w10 hbox hb; replace HO1_1 := Aside0.mk (Kd.V_below (Kd.V_elderB (qv HO1_1) gb331 (Nat.le_of_eq hg.symm)) hb); have BK331 := Aside0.mk (hbox); have GW331 := Aside0.mk (qe HB hg); have GE331 := Aside0.mk (qe HB hg); replace HB := Aside0.mk (below_step (qs HB) hb); have NB330_331 := Aside0.mk (qu BK330 hg); have NB331_330 := Aside0.mk (qw BK330 hg); replace BK330 := Aside0.mk (qB BK330 hb); clear hb hbox hg) | ((with_reducible refine qd 7 ?_); (try (refine gate_guard (by rfl) ?_; dsimp only)); refine qF (N := 7) (cs := (#[.int .i64 0, .slice none 0 0, .int .u64 0] ++ ((Ar.cells .u8 32 (List.replicate 32 0)) ++ #[.int .u64 0, .int .u64 0]))) (t := 39) ?_; intro gb332 hg w11 hbox hb; replace HO1_1 := Aside0.mk (Kd.V_below (Kd.V_elderB (qv HO1_1) gb332 (Nat.le_of_eq hg.symm)) hb); have BK332 := Aside0.mk (hbox); have GW332 := Aside0.mk (qe HB hg); have GE332 := Aside0.mk (qe HB hg); replace HB := Aside0.mk (below_step (qs HB) hb); have NB330_332 := Aside0.mk (qu BK330 hg); have NB332_330 := Aside0.mk (qw BK330 hg); replace BK330 := Aside0.mk (qB BK330 hb); have NB331_332 := Aside0.mk (qu BK331 hg); have NB332_331 := Aside0.mk (qw BK331 hg); replace BK331 := Aside0.mk (qB BK331 hb); clear hb hbox hg; have hnb12 := NB330_331.out; have hnc12 := NB331_330.out; have hnb13 := NB330_332.out; have hnc13 := NB332_330.out; have hcz14_0 : w11.cell? ⟨gb330, 0, none⟩ = some (.slice A0_0 l0_0.length c0_0) := (blk_cell BK330.out 0).trans rfl; have hfz14_0 := blk_frozen BK330.out 0) | ((with_reducible refine gate_callee (f := 60) rfl ?_); refine goesL_ (some 15) rfl rfl Tryz.func60 (by kernel_rfl) rfl #[.agg #[.slice A0_0 l0_0.length c0_0]] rfl ql ?_; (with_reducible refine (fen_Total.calls k _ _ l0_0 t333 _ ?side1 ?side2 A4.out).mono ?_); (case side1 => repeat (first | exact (Kd.C_below HR0_0.out HB.out) | (with_reducible refine Kd.C_alloc ?_ _) | (with_reducible refine Kd.C_drewN ?_ _) | (with_reducible refine Kd.C_drew ?_))); (case side2 => exact HC0_0.out); rintro e w15 ⟨rfl, hb⟩; refine ⟨_, rfl, ?_⟩; replace HO1_1 := Aside0.mk (Kd.V_below (qv HO1_1) hb); replace BK330 := Aside0.mk (qB BK330 hb); replace BK331 := Aside0.mk (qB BK331 hb); replace BK332 := Aside0.mk (qB BK332 hb); replace HB := Aside0.mk (below_step (qs HB) hb); (try clear hb); (try clear hb2); (try clear hk); (try clear hi)) | ((with_reducible refine qd 20 ?_); (try (refine gate_guard (by rfl) ?_; dsimp only)); refine Ar.gload_event rfl (T := 39) rfl Tryz.underlying39 rfl (D := (#[.int .i64 a1_0, .slice A1_1 l1_1.length c1_1, .int .u64 a1_2] ++ ((Ar.cells .u8 32 a1_3) ++ #[.int .u64 a1_4, .int .u64 a1_5]))) qz (A := ⟨gb331, 0, none⟩) rfl (Ar.blk_part (qb BK331) Ar.in_whole) ?_) | ((with_reducible refine gate_callee (f := 38) rfl ?_); refine goesL_ (some 23) rfl rfl Tryz.func38 (by kernel_rfl) rfl #[.agg (#[.int .i64 a1_0, .slice A1_1 l1_1.length c1_1, .int .u64 a1_2] ++ ((Ar.cells .u8 32 a1_3) ++ #[.int .u64 a1_4, .int .u64 a1_5])), .int .u64 t333, .int .i64 a2] rfl ql ?_; (with_reducible refine (uniform_Draw.calls k a1_0 (fun k_ => ((((P1_1_ k_ ∨ w.heap.size ≤ k_) ∧ k_ ≠ gb330) ∧ k_ ≠ gb331) ∧ k_ ≠ gb332)) _ _ l1_1 a1_2 a1_3 a1_4 a1_5 t333 a2 t334 t335 t336 t339 t340 t341 t342 t343 _ ?side1 A6.out).mono ?_); (case side1 => exact HO1_1.out); rintro e w16 ⟨v337, rfl, ho0, hb⟩; refine ⟨_, rfl, ?_⟩; replace HO1_1 := Aside0.mk (Kd.V_below (qv HO1_1) hb); have HO338 := Aside0.mk (Kd.V_lower (Kd.V_mono (ok' := fun k_ => (P1_1_ k_ ∨ w.heap.size ≤ k_) ∧ k_ ≠ gb330 ∧ k_ ≠ gb331 ∧ k_ ≠ gb332) ho0 (fun k_ hk_ => ⟨Or.elim hk_ (fun hs_ => hs_.1.1.1) (fun hn_ => (.inr (Nat.le_trans (below_size (qs HB)) hn_))), Or.elim hk_ (fun hs_ => hs_.1.1.2) (fun hn_ => (Kd.freshB (g := gb330) (o := .cells #[.slice A0_0 l0_0.length c0_0] 54 (0, 0)) (qb BK330) k_ hn_)), Or.elim hk_ (fun hs_ => hs_.1.2) (fun hn_ => (Kd.freshB (g := gb331) (o := .cells (#[.int .i64 a1_0, .slice A1_1 l1_1.length c1_1, .int .u64 a1_2] ++ ((Ar.cells .u8 32 a1_3) ++ #[.int .u64 a1_4, .int .u64 a1_5])) 39 (0, 0)) (qb BK331) k_ hn_)), Or.elim hk_ (fun hs_ => hs_.2) (fun hn_ => (Kd.freshB (g := gb332) (o := .cells (#[.int .i64 0, .slice none 0 0, .int .u64 0] ++ ((Ar.cells .u8 32 (List.replicate 32 0)) ++ #[.int .u64 0, .int .u64 0])) 39 (0, 0)) (qb BK332) k_ hn_))⟩)) (below_size (qs HB))); replace BK330 := Aside0.mk (qB BK330 hb); replace BK331 := Aside0.mk (qB BK331 hb); replace BK332 := Aside0.mk (qB BK332 hb); replace HB := Aside0.mk (below_step (qs HB) hb); (try clear hb); (try clear hb2); (try clear hk); (try clear hi); (try clear ho0)) | ((with_reducible refine qd 11 ?_); (try (refine gate_guard (by rfl) ?_; dsimp only)); refine qF (N := 11) (cs := (#[.int .i64 0, .slice none 0 0, .int .u64 0] ++ ((Ar.cells .u8 32 (List.replicate 32 0)) ++ #[.int .u64 0, .int .u64 0]))) (t := 39) ?_; intro gb344 hg w17 hbox hb; replace HO1_1 := Aside0.mk (Kd.V_below (Kd.V_elderB (qv HO1_1) gb344 (Nat.le_of_eq hg.symm)) hb); replace HO338 := Aside0.mk (Kd.V_below (Kd.V_elderB (qv HO338) gb344 (Nat.le_of_eq hg.symm)) hb); have BK344 := Aside0.mk (hbox); have GW344 := Aside0.mk (qe HB hg); have GE344 := Aside0.mk (qe HB hg); replace HB := Aside0.mk (below_step (qs HB) hb); have NB330_344 := Aside0.mk (qu BK330 hg); have NB344_330 := Aside0.mk (qw BK330 hg); replace BK330 := Aside0.mk (qB BK330 hb); have NB331_344 := Aside0.mk (qu BK331 hg); have NB344_331 := Aside0.mk (qw BK331 hg); replace BK331 := Aside0.mk (qB BK331 hb); have NB332_344 := Aside0.mk (qu BK332 hg); have NB344_332 := Aside0.mk (qw BK332 hg); replace BK332 := Aside0.mk (qB BK332 hb); clear hb hbox hg) | ((with_reducible refine gate_store (t := 39) (p := 11) rfl ?_); refine Ar.gstore_event rfl rfl rfl (D := (#[.int .i64 t335, v337, .int .u64 t339] ++ ((Ar.cells .u8 32 t340) ++ #[.int .u64 t341, .int .u64 t342]))) qz (g := gb344) rfl qg (qb BK344) (by simp [Ar.cells_size]) (by repeat (first | (with_reducible refine Ar.all_app ?_ ?_) | (with_reducible exact Ar.cells_one _ _ _) | (focus (simp [Value.oneCell']; done)) | (focus (simp [(show (v337 : Value).oneCell' = true from by (have e_ := Kd.V_slice HO338.out; obtain ⟨_, _, e_⟩ := e_; rw [e_]; rfl))]; first | done | rfl | (repeat' constructor))) | rfl)) ?_; intro w18 hbk_ hg; replace HO1_1 := Aside0.mk (Kd.V_grown (qv HO1_1) hg (by intro k_ hk e_; exact (hk.2) (Option.some.inj e_))); replace BK330 := Aside0.mk (qG BK330 hg (fun e_ => NB330_344.out (Option.some.inj e_))); replace BK331 := Aside0.mk (qG BK331 hg (fun e_ => NB331_344.out (Option.some.inj e_))); replace BK332 := Aside0.mk (qG BK332 hg (fun e_ => NB332_344.out (Option.some.inj e_))); replace HO338 := Aside0.mk (Kd.V_grown (qv HO338) hg (by intro k_ hk e_; exact (hk.2) (Option.some.inj e_))); replace BK344 := Aside0.mk (hbk_); replace HB := Aside0.mk (Below.grown (qs HB) hg ((below_size (qs HB))) (fun _ e_ => by cases e_; exact GE344.out)); clear hbk_ hg; have hnb19 := NB330_344.out; have hnc19 := NB344_330.out; have hcz20_0 : w18.cell? ⟨gb330, 0, none⟩ = some (.slice A0_0 l0_0.length c0_0) := (blk_cell BK330.out 0).trans rfl; have hfz20_0 := blk_frozen BK330.out 0) | ((with_reducible refine gate_callee (f := 25) rfl ?_); refine goesL_ (some 34) rfl rfl Tryz.func25 (by kernel_rfl) rfl #[.agg #[.slice A0_0 l0_0.length c0_0], .int .u64 t334] rfl ql ?_; (with_reducible refine (fen_Owner.calls k _ _ l0_0 t334 t345 t346 _ ?side1 ?side2 A8.out).mono ?_); (case side1 => repeat (first | exact (Kd.C_below HR0_0.out HB.out) | (with_reducible refine Kd.C_alloc ?_ _) | (with_reducible refine Kd.C_drewN ?_ _) | (with_reducible refine Kd.C_drew ?_))); (case side2 => exact HC0_0.out); rintro e w21 ⟨rfl, hb⟩; refine ⟨_, rfl, ?_⟩; replace HO1_1 := Aside0.mk (Kd.V_below (qv HO1_1) hb); replace HO338 := Aside0.mk (Kd.V_below (qv HO338) hb); replace BK330 := Aside0.mk (qB BK330 hb); replace BK331 := Aside0.mk (qB BK331 hb); replace BK332 := Aside0.mk (qB BK332 hb); replace BK344 := Aside0.mk (qB BK344 hb); replace HB := Aside0.mk (below_step (qs HB) hb); (try clear hb); (try clear hb2); (try clear hk); (try clear hi)))
   replace HO1_1 := Aside0.mk (Kd.V_drew HO1_1.out)
   replace HO338 := Aside0.mk (Kd.V_drew HO338.out)
   replace BK330 := Aside0.mk (blk_drew BK330.out)
   replace BK331 := Aside0.mk (blk_drew BK331.out)
   replace BK332 := Aside0.mk (blk_drew BK332.out)
   replace BK344 := Aside0.mk (blk_drew BK344.out)
   replace HB := Aside0.mk (below_drew1 HB.out)
   refine start_ (n := 6) (S := fun w' => w'.heap[gb344]? = some (.cells (#[.int .i64 t335, v337, .int .u64 t339] ++ ((Ar.cells .u8 32 t340) ++ #[.int .u64 t341, .int .u64 t342])) 39 (0, 0)) ∧ w'.cell? ⟨gb344, 0, none⟩ = some (.int .i64 t335) ∧ w'.cell? ⟨gb344, 1, none⟩ = some (v337) ∧ w'.cell? ⟨gb344, 2, none⟩ = some (.int .u64 t339) ∧ w'.cell? ⟨gb344, 35, none⟩ = some (.int .u64 t341) ∧ w'.cell? ⟨gb344, 36, none⟩ = some (.int .u64 t342)) (ds := []) #[false, false, false, false, false, false] (by kernel_rfl) rfl rfl ⟨BK344.out, (blk_cell BK344.out 0).trans qc, (blk_cell BK344.out 1).trans qc, (blk_cell BK344.out 2).trans qc, (blk_cell BK344.out 35).trans qc, (blk_cell BK344.out 36).trans qc⟩ (fun hHeld => ?_)
   generalize w21.drew = w22 at HO1_1 HO338 BK330 BK331 BK332 BK344 HB hHeld ⊢
   refine qP 0 (some 37) (qt 6 1) ?_
   refine qP 2 (some 39) (qt 6 5) ?_
   refine qP 3 (some 6) (qt 6 13) ?_
   refine take_ (i := 1) (N := some 38) (v := ?_) (a' := ?_) (qt 6 15) rfl rfl (by kernel_rfl) (fun _ _ _ h => h) (Or.inl ⟨by rfl, ?_⟩) hHeld ?_ ?_
   rotate_left
   ·rintro w' ⟨s0, s1, s2, s3, s4, s5⟩
    first | (refine (Ar.gload_run rfl Tryz.underlying39 rfl (D := (#[.int .i64 t335, v337, .int .u64 t339] ++ ((Ar.cells .u8 32 t340) ++ #[.int .u64 t341, .int .u64 t342]))) qz rfl (Ar.blk_part (by assumption) Ar.in_whole)).trans ?_; with_reducible rfl) | (go_simp; with_reducible rfl)
   rotate_left
   ·simp only [Act.put, zA_, zB_, zC_, i64_w, i32_w]
    rfl
   refine one_ (i := 4) (N := none) (qt 6 31) rfl rfl (by kernel_rfl) (by decide) (fun K hK => ?_)
   refine Ar.gstore_step (by rfl) rfl rfl (D := (#[.int .i64 t335, v337, .int .u64 t339] ++ ((Ar.cells .u8 32 t340) ++ #[.int .u64 t341, .int .u64 t342]))) qz (g := gb332) rfl qg (qb BK332) (by simp [Ar.cells_size]) (by repeat (first | (with_reducible refine Ar.all_app ?_ ?_) | (with_reducible exact Ar.cells_one _ _ _) | (focus (simp [Value.oneCell']; done)) | (focus (simp [(show (v337 : Value).oneCell' = true from by (have e_ := Kd.V_slice HO338.out; obtain ⟨_, _, e_⟩ := e_; rw [e_]; rfl))]; first | done | rfl | (repeat' constructor))) | rfl)) ?_; intro w23 hbk_ hg
   replace HO1_1 := Aside0.mk (Kd.V_grown (qv HO1_1) hg (by intro k_ hk e_; exact (hk.1.2) (Option.some.inj e_)))
   replace BK330 := Aside0.mk (qG BK330 hg (fun e_ => NB330_332.out (Option.some.inj e_)))
   replace BK331 := Aside0.mk (qG BK331 hg (fun e_ => NB331_332.out (Option.some.inj e_)))
   replace HO338 := Aside0.mk (Kd.V_grown (qv HO338) hg (by intro k_ hk e_; exact (hk.1.2.2.2) (Option.some.inj e_)))
   replace BK344 := Aside0.mk (qG BK344 hg (fun e_ => NB344_332.out (Option.some.inj e_)))
   replace BK332 := Aside0.mk (hbk_)
   replace HB := Aside0.mk (Below.grown (qs HB) hg ((below_size (qs HB))) (fun _ e_ => by cases e_; exact GE332.out))
   clear hbk_ hg
   refine hK.out _ _ ⟨BK344.out, (blk_cell BK344.out 0).trans qc, (blk_cell BK344.out 1).trans qc, (blk_cell BK344.out 2).trans qc, (blk_cell BK344.out 35).trans qc, (blk_cell BK344.out 36).trans qc⟩ (fun hHeld => ?_)
   clear hK K
   refine qP 5 (some 8) (qt 6 63) ?_
   refine done_ (by kernel_rfl) ?_
   try go_wp2
   refine bodyPost_ret (results_list (rs := [.tmp 6, .cell 7 39, .tmp 8]) rfl (by simp) (.tmp (.cell gb332 39 (#[.int .i64 t335, v337, .int .u64 t339] ++ ((Ar.cells .u8 32 t340) ++ #[.int .u64 t341, .int .u64 t342])) (0, 0) _ rfl (qb BK332) Tryz.underlying39 rfl qz (.tmp .nil)))) rfl ?_
   exact ⟨_, by first | rfl | (simp [errW_none, errW_some] <;> rfl) | (simp [*, errW_none, errW_some] <;> rfl), by (with_reducible repeat (first | apply Kd.V_alloc | apply Kd.V_drewN | apply Kd.V_drew)); exact Kd.V_mono HO338.out (fun _ hk => hk.1.1), (qs HB)⟩
  ·rw [if_neg c7] at H
   exact absurd H (by simp)
def tape_Tape.f (l0 : List Int) (a1 : Int) : Option (Int × List Int × Int × List Int × Int × Int × Int) := (bytes_Clone.f l0).bind fun t348 => ((tape_Right.f 1 t348 a1 (List.replicate 32 0) 0 0).bind fun t352 => (if t352 = true then (some (1, t348, a1, (List.replicate 32 0), 0, 0, 0)) else (some (0, ([] : List Int), 0, (List.replicate 32 0), 0, 0, 1))))
set_option maxHeartbeats 8000000 in
set_option maxRecDepth 100000 in
theorem tape_Tape.calls (A0 : Option Addr) (c0 : Nat) (l0 : List Int) (a1 : Int) (r1 : Int) (r2 : List Int) (r3 : Int) (r4 : List Int) (r5 : Int) (r6 : Int) (r7 : Int) (w : World) (hr0 : Kd.C (Kd.int .u8) w A0 l0.length l0) (hc0 : l0.length ≤ c0) (h : tape_Tape.f l0 a1 = some (r1, r2, r3, r4, r5, r6, r7)) :
  Calls Tryz.prog 30 #[.slice A0 l0.length c0, .int .u64 a1] w fun e w' => ∃ v1_ : Value, e = .returned (.tuple #[.agg (#[.int .i64 r1, v1_, .int .u64 r3] ++ (Ar.cells .u8 32 r4 ++ #[.int .u64 r5, .int .u64 r6])), .int .i64 r7]) ∧ Kd.R (Kd.int .u8) 5 w' w.heap.size (fun _ => True) v1_ r2 ∧ Below w.heap.size w w' := by
 have hu39 := Tryz.underlying39
 have HR0 := Aside0.mk hr0
 have HC0 := Aside0.mk hc0
 clear hr0 hc0
 have HB := Aside0.mk (Below.refl w.heap.size w)
 have H : ((bytes_Clone.f l0).bind fun t348 => ((tape_Right.f 1 t348 a1 (List.replicate 32 0) 0 0).bind fun t352 => (if t352 = true then (some (1, t348, a1, (List.replicate 32 0), 0, 0, 0)) else (some (0, ([] : List Int), 0, (List.replicate 32 0), 0, 0, 1))))) = some (r1, r2, r3, r4, r5, r6, r7) := h
 clear h
 replace H := Option.bind_eq_some_iff.mp H
 obtain ⟨t348, A30, H⟩ := H
 try dsimp only at H
 have A3 := Aside0.mk A30
 clear A30
 replace H := Option.bind_eq_some_iff.mp H
 obtain ⟨t352, A40, H⟩ := H
 try dsimp only at H
 have A4 := Aside0.mk A40
 clear A40
 by_cases c5 : t352 = true
 ·subst c5
  have H1 : (some (1, t348, a1, (List.replicate 32 0), 0, 0, 0)) = some (r1, r2, r3, r4, r5, r6, r7) := by rw [if_pos rfl] at H; exact H
  clear H
  have H := H1
  clear H1
  simp only [Option.some.injEq, Prod.mk.injEq] at H
  obtain ⟨rfl, rfl, rfl, rfl, rfl, rfl, rfl⟩ := H
  go_enter Tryz.func30, Tryz.ntmps30
  go_wp2_with (first | ((with_reducible refine qd 4 ?_); (try (refine gate_guard (by rfl) ?_; dsimp only)); refine qF (N := 4) (cs := (#[.int .i64 0, .slice none 0 0, .int .u64 0] ++ ((Ar.cells .u8 32 (List.replicate 32 0)) ++ #[.int .u64 0, .int .u64 0]))) (t := 39) ?_; intro gb347 hg w6 hbox hb; have BK347 := Aside0.mk (hbox); have GW347 := Aside0.mk (qe HB hg); have GE347 := Aside0.mk (qe HB hg); replace HB := Aside0.mk (below_step (qs HB) hb); clear hb hbox hg) | ((with_reducible refine gate_callee (f := 65) rfl ?_); refine goesL_ (some 8) rfl rfl Tryz.func65 (by kernel_rfl) rfl #[.slice A0 l0.length c0] rfl ql ?_; (with_reducible refine (bytes_Clone.calls _ _ l0 t348 _ ?side1 ?side2 A3.out).mono ?_); (case side1 => repeat (first | exact (Kd.C_below HR0.out HB.out) | (with_reducible refine Kd.C_alloc ?_ _) | (with_reducible refine Kd.C_drewN ?_ _) | (with_reducible refine Kd.C_drew ?_))); (case side2 => exact HC0.out); rintro e w7 ⟨v349, rfl, ho0, hb⟩; refine ⟨_, rfl, ?_⟩; have HO350 := Aside0.mk (Kd.R_lower ho0 (below_size (qs HB))); replace BK347 := Aside0.mk (qB BK347 hb); replace HB := Aside0.mk (below_step (qs HB) hb); (try clear hb); (try clear hb2); (try clear hk); (try clear hi); (try clear ho0); obtain ⟨Ao8, co8, eo8⟩ := Kd.R_slice HO350.out; subst eo8) | ((with_reducible refine qd 10 ?_); (try (refine gate_guard (by rfl) ?_; dsimp only)); refine Ar.gbuild_event rfl (T := 39) rfl (D := (#[.int .i64 1, .slice Ao8 t348.length co8, .int .u64 a1] ++ ((Ar.cells .u8 32 (List.replicate 32 0)) ++ #[.int .u64 0, .int .u64 0]))) (by simp only [List.map_toArray, List.map_cons, List.map_nil]; exact fatBuild39_0_1_2 _ 1 _ _ _ a1) ?_) | ((with_reducible refine qd 6 ?_); (try (refine gate_guard (by rfl) ?_; dsimp only)); refine qF (N := 6) (cs := (#[.int .i64 0, .slice none 0 0, .int .u64 0] ++ ((Ar.cells .u8 32 (List.replicate 32 0)) ++ #[.int .u64 0, .int .u64 0]))) (t := 39) ?_; intro gb351 hg w9 hbox hb; replace HO350 := Aside0.mk (Kd.R_below (qr HO350) hb); have BK351 := Aside0.mk (hbox); have GW351 := Aside0.mk (qe HB hg); have GE351 := Aside0.mk (qe HB hg); replace HB := Aside0.mk (below_step (qs HB) hb); have NB347_351 := Aside0.mk (qu BK347 hg); have NB351_347 := Aside0.mk (qw BK347 hg); replace BK347 := Aside0.mk (qB BK347 hb); clear hb hbox hg) | ((with_reducible refine gate_store (t := 39) (p := 6) rfl ?_); refine Ar.gstore_event rfl rfl rfl (D := (#[.int .i64 1, .slice Ao8 t348.length co8, .int .u64 a1] ++ ((Ar.cells .u8 32 (List.replicate 32 0)) ++ #[.int .u64 0, .int .u64 0]))) qz (g := gb351) rfl qg (qb BK351) (by simp [Ar.cells_size]) (by repeat (first | (with_reducible refine Ar.all_app ?_ ?_) | (with_reducible exact Ar.cells_one _ _ _) | (focus (simp [Value.oneCell']; done)) | rfl)) ?_; intro w10 hbk_ hg; replace BK347 := Aside0.mk (qG BK347 hg (fun e_ => NB347_351.out (Option.some.inj e_))); replace HO350 := Aside0.mk (Kd.R_mono (Kd.R_grown (Kd.R_types (qr HO350) BK351.out (by decide)) hg (fun k_ hk_ e_ => hk_.2 (Option.some.inj e_))) (fun _ h_ => h_.1)); replace BK351 := Aside0.mk (hbk_); replace HB := Aside0.mk (Below.grown (qs HB) hg ((below_size (qs HB))) (fun _ e_ => by cases e_; exact GE351.out)); clear hbk_ hg) | ((with_reducible refine qd 11 ?_); (try (refine gate_guard (by rfl) ?_; dsimp only)); refine Ar.gload_event rfl (T := 39) rfl Tryz.underlying39 rfl (D := (#[.int .i64 1, .slice Ao8 t348.length co8, .int .u64 a1] ++ ((Ar.cells .u8 32 (List.replicate 32 0)) ++ #[.int .u64 0, .int .u64 0]))) qz (A := ⟨gb351, 0, none⟩) rfl (Ar.blk_part (qb BK351) Ar.in_whole) ?_) | ((with_reducible refine gate_callee (f := 66) rfl ?_); refine goesL_ (some 12) rfl rfl Tryz.func66 (by kernel_rfl) rfl #[.agg (#[.int .i64 1, .slice Ao8 t348.length co8, .int .u64 a1] ++ ((Ar.cells .u8 32 (List.replicate 32 0)) ++ #[.int .u64 0, .int .u64 0]))] rfl ql ?_; (with_reducible refine (tape_Right.calls 1 _ _ t348 a1 (List.replicate 32 0) 0 0 true _ ?side1 ?side2 A4.out).mono ?_); (case side1 => repeat (first | exact (Kd.R_reads' HO350.out).2.2 | (with_reducible refine Kd.C_alloc ?_ _) | (with_reducible refine Kd.C_drewN ?_ _) | (with_reducible refine Kd.C_drew ?_))); (case side2 => exact (Kd.R_reads' HO350.out).2.1); rintro e w11 ⟨rfl, hb⟩; refine ⟨_, rfl, ?_⟩; replace HO350 := Aside0.mk (Kd.R_below (qr HO350) hb); replace BK347 := Aside0.mk (qB BK347 hb); replace BK351 := Aside0.mk (qB BK351 hb); replace HB := Aside0.mk (below_step (qs HB) hb); (try clear hb); (try clear hb2); (try clear hk); (try clear hi)) | ((with_reducible refine qd 15 ?_); (try (refine gate_guard (by rfl) ?_; dsimp only)); refine Ar.gload_event rfl (T := 39) rfl Tryz.underlying39 rfl (D := (#[.int .i64 1, .slice Ao8 t348.length co8, .int .u64 a1] ++ ((Ar.cells .u8 32 (List.replicate 32 0)) ++ #[.int .u64 0, .int .u64 0]))) qz (A := ⟨gb351, 0, none⟩) rfl (Ar.blk_part (qb BK351) Ar.in_whole) ?_) | ((with_reducible refine gate_store (t := 39) (p := 4) rfl ?_); refine Ar.gstore_event rfl rfl rfl (D := (#[.int .i64 1, .slice Ao8 t348.length co8, .int .u64 a1] ++ ((Ar.cells .u8 32 (List.replicate 32 0)) ++ #[.int .u64 0, .int .u64 0]))) qz (g := gb347) rfl qg (qb BK347) (by simp [Ar.cells_size]) (by repeat (first | (with_reducible refine Ar.all_app ?_ ?_) | (with_reducible exact Ar.cells_one _ _ _) | (focus (simp [Value.oneCell']; done)) | rfl)) ?_; intro w12 hbk_ hg; replace HO350 := Aside0.mk (Kd.R_mono (Kd.R_grown (Kd.R_types (qr HO350) BK347.out (by decide)) hg (fun k_ hk_ e_ => hk_.2 (Option.some.inj e_))) (fun _ h_ => h_.1)); replace BK351 := Aside0.mk (qG BK351 hg (fun e_ => NB351_347.out (Option.some.inj e_))); replace BK347 := Aside0.mk (hbk_); replace HB := Aside0.mk (Below.grown (qs HB) hg ((below_size (qs HB))) (fun _ e_ => by cases e_; exact GE347.out)); clear hbk_ hg))
  refine bodyPost_ret (results_ct rfl _ _ gb347 39 (#[.int .i64 1, .slice Ao8 t348.length co8, .int .u64 a1] ++ ((Ar.cells .u8 32 (List.replicate 32 0)) ++ #[.int .u64 0, .int .u64 0])) (0, 0) _ rfl (qb BK347) Tryz.underlying39 rfl qZ) rfl ?_
  exact ⟨_, by first | rfl | (simp [errW_none, errW_some] <;> rfl) | (simp [*, errW_none, errW_some] <;> rfl), (qr HO350), (qs HB)⟩
 ·replace c5 := Bool.eq_false_iff.mpr c5
  subst c5
  have H1 : (some (0, ([] : List Int), 0, (List.replicate 32 0), 0, 0, 1)) = some (r1, r2, r3, r4, r5, r6, r7) := by rw [if_neg (show ¬ (false = true) by decide)] at H; exact H
  clear H
  have H := H1
  clear H1
  simp only [Option.some.injEq, Prod.mk.injEq] at H
  obtain ⟨rfl, rfl, rfl, rfl, rfl, rfl, rfl⟩ := H
  go_enter Tryz.func30, Tryz.ntmps30
  go_wp2_with (first | ((with_reducible refine qd 4 ?_); (try (refine gate_guard (by rfl) ?_; dsimp only)); refine qF (N := 4) (cs := (#[.int .i64 0, .slice none 0 0, .int .u64 0] ++ ((Ar.cells .u8 32 (List.replicate 32 0)) ++ #[.int .u64 0, .int .u64 0]))) (t := 39) ?_; intro gb347 hg w13 hbox hb; have BK347 := Aside0.mk (hbox); have GW347 := Aside0.mk (qe HB hg); have GE347 := Aside0.mk (qe HB hg); replace HB := Aside0.mk (below_step (qs HB) hb); clear hb hbox hg) | ((with_reducible refine gate_callee (f := 65) rfl ?_); refine goesL_ (some 8) rfl rfl Tryz.func65 (by kernel_rfl) rfl #[.slice A0 l0.length c0] rfl ql ?_; (with_reducible refine (bytes_Clone.calls _ _ l0 t348 _ ?side1 ?side2 A3.out).mono ?_); (case side1 => repeat (first | exact (Kd.C_below HR0.out HB.out) | (with_reducible refine Kd.C_alloc ?_ _) | (with_reducible refine Kd.C_drewN ?_ _) | (with_reducible refine Kd.C_drew ?_))); (case side2 => exact HC0.out); rintro e w14 ⟨v349, rfl, ho0, hb⟩; refine ⟨_, rfl, ?_⟩; have HO350 := Aside0.mk (Kd.R_lower ho0 (below_size (qs HB))); replace BK347 := Aside0.mk (qB BK347 hb); replace HB := Aside0.mk (below_step (qs HB) hb); (try clear hb); (try clear hb2); (try clear hk); (try clear hi); (try clear ho0); obtain ⟨Ao15, co15, eo15⟩ := Kd.R_slice HO350.out; subst eo15) | ((with_reducible refine qd 10 ?_); (try (refine gate_guard (by rfl) ?_; dsimp only)); refine Ar.gbuild_event rfl (T := 39) rfl (D := (#[.int .i64 1, .slice Ao15 t348.length co15, .int .u64 a1] ++ ((Ar.cells .u8 32 (List.replicate 32 0)) ++ #[.int .u64 0, .int .u64 0]))) (by simp only [List.map_toArray, List.map_cons, List.map_nil]; exact fatBuild39_0_1_2 _ 1 _ _ _ a1) ?_) | ((with_reducible refine qd 6 ?_); (try (refine gate_guard (by rfl) ?_; dsimp only)); refine qF (N := 6) (cs := (#[.int .i64 0, .slice none 0 0, .int .u64 0] ++ ((Ar.cells .u8 32 (List.replicate 32 0)) ++ #[.int .u64 0, .int .u64 0]))) (t := 39) ?_; intro gb351 hg w16 hbox hb; replace HO350 := Aside0.mk (Kd.R_below (qr HO350) hb); have BK351 := Aside0.mk (hbox); have GW351 := Aside0.mk (qe HB hg); have GE351 := Aside0.mk (qe HB hg); replace HB := Aside0.mk (below_step (qs HB) hb); have NB347_351 := Aside0.mk (qu BK347 hg); have NB351_347 := Aside0.mk (qw BK347 hg); replace BK347 := Aside0.mk (qB BK347 hb); clear hb hbox hg) | ((with_reducible refine gate_store (t := 39) (p := 6) rfl ?_); refine Ar.gstore_event rfl rfl rfl (D := (#[.int .i64 1, .slice Ao15 t348.length co15, .int .u64 a1] ++ ((Ar.cells .u8 32 (List.replicate 32 0)) ++ #[.int .u64 0, .int .u64 0]))) qz (g := gb351) rfl qg (qb BK351) (by simp [Ar.cells_size]) (by repeat (first | (with_reducible refine Ar.all_app ?_ ?_) | (with_reducible exact Ar.cells_one _ _ _) | (focus (simp [Value.oneCell']; done)) | rfl)) ?_; intro w17 hbk_ hg; replace BK347 := Aside0.mk (qG BK347 hg (fun e_ => NB347_351.out (Option.some.inj e_))); replace HO350 := Aside0.mk (Kd.R_mono (Kd.R_grown (Kd.R_types (qr HO350) BK351.out (by decide)) hg (fun k_ hk_ e_ => hk_.2 (Option.some.inj e_))) (fun _ h_ => h_.1)); replace BK351 := Aside0.mk (hbk_); replace HB := Aside0.mk (Below.grown (qs HB) hg ((below_size (qs HB))) (fun _ e_ => by cases e_; exact GE351.out)); clear hbk_ hg) | ((with_reducible refine qd 11 ?_); (try (refine gate_guard (by rfl) ?_; dsimp only)); refine Ar.gload_event rfl (T := 39) rfl Tryz.underlying39 rfl (D := (#[.int .i64 1, .slice Ao15 t348.length co15, .int .u64 a1] ++ ((Ar.cells .u8 32 (List.replicate 32 0)) ++ #[.int .u64 0, .int .u64 0]))) qz (A := ⟨gb351, 0, none⟩) rfl (Ar.blk_part (qb BK351) Ar.in_whole) ?_) | ((with_reducible refine gate_callee (f := 66) rfl ?_); refine goesL_ (some 12) rfl rfl Tryz.func66 (by kernel_rfl) rfl #[.agg (#[.int .i64 1, .slice Ao15 t348.length co15, .int .u64 a1] ++ ((Ar.cells .u8 32 (List.replicate 32 0)) ++ #[.int .u64 0, .int .u64 0]))] rfl ql ?_; (with_reducible refine (tape_Right.calls 1 _ _ t348 a1 (List.replicate 32 0) 0 0 false _ ?side1 ?side2 A4.out).mono ?_); (case side1 => repeat (first | exact (Kd.R_reads' HO350.out).2.2 | (with_reducible refine Kd.C_alloc ?_ _) | (with_reducible refine Kd.C_drewN ?_ _) | (with_reducible refine Kd.C_drew ?_))); (case side2 => exact (Kd.R_reads' HO350.out).2.1); rintro e w18 ⟨rfl, hb⟩; refine ⟨_, rfl, ?_⟩; replace HO350 := Aside0.mk (Kd.R_below (qr HO350) hb); replace BK347 := Aside0.mk (qB BK347 hb); replace BK351 := Aside0.mk (qB BK351 hb); replace HB := Aside0.mk (below_step (qs HB) hb); (try clear hb); (try clear hb2); (try clear hk); (try clear hi)) | ((with_reducible refine qd 14 ?_); (try (refine gate_guard (by rfl) ?_; dsimp only)); refine Ar.gbuild_event rfl (T := 39) rfl (D := (#[.int .i64 0, .slice none 0 0, .int .u64 0] ++ ((Ar.cells .u8 32 (List.replicate 32 0)) ++ #[.int .u64 0, .int .u64 0]))) (by simp only [List.map_toArray, List.map_cons, List.map_nil]; exact fatBuild39_ _ ) ?_) | ((with_reducible refine gate_store (t := 39) (p := 4) rfl ?_); refine Ar.gstore_event rfl rfl rfl (D := (#[.int .i64 0, .slice none 0 0, .int .u64 0] ++ ((Ar.cells .u8 32 (List.replicate 32 0)) ++ #[.int .u64 0, .int .u64 0]))) qz (g := gb347) rfl qg (qb BK347) (by simp [Ar.cells_size]) (by repeat (first | (with_reducible refine Ar.all_app ?_ ?_) | (with_reducible exact Ar.cells_one _ _ _) | (focus (simp [Value.oneCell']; done)) | rfl)) ?_; intro w19 hbk_ hg; replace HO350 := Aside0.mk (Kd.R_mono (Kd.R_grown (Kd.R_types (qr HO350) BK347.out (by decide)) hg (fun k_ hk_ e_ => hk_.2 (Option.some.inj e_))) (fun _ h_ => h_.1)); replace BK351 := Aside0.mk (qG BK351 hg (fun e_ => NB351_347.out (Option.some.inj e_))); replace BK347 := Aside0.mk (hbk_); replace HB := Aside0.mk (Below.grown (qs HB) hg ((below_size (qs HB))) (fun _ e_ => by cases e_; exact GE347.out)); clear hbk_ hg))
  refine bodyPost_ret (results_ct rfl _ _ gb347 39 (#[.int .i64 0, .slice none 0 0, .int .u64 0] ++ ((Ar.cells .u8 32 (List.replicate 32 0)) ++ #[.int .u64 0, .int .u64 0])) (0, 0) _ rfl (qb BK347) Tryz.underlying39 rfl qZ) rfl ?_
  exact ⟨_, by first | rfl | (simp [errW_none, errW_some] <;> rfl) | (simp [*, errW_none, errW_some] <;> rfl), by first | exact Kd.R_nil _ _ _ _ _ | exact Kd.N_nil _ _ _ _ _ | exact Kd.V_nil _ _ _ _ _ | exact Kd.Q_nil _ _ _ _ _ | exact Kd.S_nil _ _ _ _ _, (qs HB)⟩
def alias_total.f (k : Nat) (l0 : List Int) : Option (Int × Int) := if (IntKind.u64.wrap ((l0.length : Int))) = 0 then (some (0, 10)) else ((safe_Total.f k l0).bind fun bt353 => (if bt353.2 = true then (if bt353.1 = 0 then (some (0, 10)) else ((safe_Mul.f (IntKind.u64.wrap ((l0.length : Int))) bt353.1).bind fun bt355 => (if bt355.2 = true then (some (bt353.1, 0)) else (some (0, 11))))) else (some (0, 11))))
theorem alias_total.mono : ∀ a0 k, LeO (alias_total.f k a0) (alias_total.f (k + 1) a0) := by
 intro a0 k
 unfold alias_total.f
 repeat' first
   | (with_reducible exact safe_Total.mono _ _)
   | (with_reducible exact LeO.refl _)
   | (with_reducible exact LeO.none _)
   | (with_reducible refine LeO.ite ?_ ?_)
   | (with_reducible refine LeO.bind ?_ (fun _ => ?_))
   | exact safe_Total.mono _ _
   | exact LeO.none _
   | refine LeO.ite ?_ ?_
   | refine LeO.bind ?_ (fun _ => ?_)
set_option maxHeartbeats 8000000 in
set_option maxRecDepth 100000 in
theorem alias_total.calls (k : Nat) (A0 : Option Addr) (c0 : Nat) (l0 : List Int) (r1 : Int) (r2 : Int) (w : World) (hr0 : Kd.C (Kd.int .u64) w A0 l0.length l0) (hc0 : l0.length ≤ c0) (h : alias_total.f k l0 = some (r1, r2)) :
  Calls Tryz.prog 45 #[.slice A0 l0.length c0] w fun e w' => e = .returned (.tuple #[.int .u64 r1, .int .i64 r2]) ∧ Drawn0 w w' := by
 have HR0 := Aside0.mk hr0
 have HC0 := Aside0.mk hc0
 clear hr0 hc0
 have H : (if (IntKind.u64.wrap ((l0.length : Int))) = 0 then (some (0, 10)) else ((safe_Total.f k l0).bind fun bt353 => (if bt353.2 = true then (if bt353.1 = 0 then (some (0, 10)) else ((safe_Mul.f (IntKind.u64.wrap ((l0.length : Int))) bt353.1).bind fun bt355 => (if bt355.2 = true then (some (bt353.1, 0)) else (some (0, 11))))) else (some (0, 11))))) = some (r1, r2) := h
 clear h
 by_cases c2 : (IntKind.u64.wrap ((l0.length : Int))) = 0
 ·rw [if_pos c2] at H
  have c2b0 : ((IntKind.u64.wrap ((l0.length : Int))) == 0) = true := beq_iff_eq.mpr c2
  have c2b1 : ((IntKind.u64.wrap ((l0.length : Int))) != 0) = false := bne_eq_false_iff_eq.mpr c2
  clear c2
  simp only [Option.some.injEq, Prod.mk.injEq] at H
  obtain ⟨rfl, rfl⟩ := H
  go_enter Tryz.func45, Tryz.ntmps45
  go_wp2
  go_ret2
  exact ⟨by first | rfl | (simp; done) | (simp [*]; done), by repeat (first | exact Drawn0.refl _ | apply Drawn0.step)⟩
 ·rw [if_neg c2] at H
  have c2b0 : ((IntKind.u64.wrap ((l0.length : Int))) == 0) = false := beq_eq_false_iff_ne.mpr c2
  have c2b1 : ((IntKind.u64.wrap ((l0.length : Int))) != 0) = true := bne_iff_ne.mpr c2
  replace H := Option.bind_eq_some_iff.mp H
  obtain ⟨⟨t353, t354⟩, A30, H⟩ := H
  try dsimp only at H
  have A3 := Aside0.mk A30
  clear A30
  by_cases c4 : t354 = true
  ·subst c4
   have H1 : (if t353 = 0 then (some (0, 10)) else ((safe_Mul.f (IntKind.u64.wrap ((l0.length : Int))) t353).bind fun bt355 => (if bt355.2 = true then (some (t353, 0)) else (some (0, 11))))) = some (r1, r2) := by rw [if_pos rfl] at H; exact H
   clear H
   have H := H1
   clear H1
   by_cases c5 : t353 = 0
   ·rw [if_pos c5] at H
    have c5b0 : (t353 == 0) = true := beq_iff_eq.mpr c5
    have c5b1 : (t353 != 0) = false := bne_eq_false_iff_eq.mpr c5
    clear c5
    simp only [Option.some.injEq, Prod.mk.injEq] at H
    obtain ⟨rfl, rfl⟩ := H
    go_enter Tryz.func45, Tryz.ntmps45
    go_wp2_with (first | ((with_reducible refine gate_callee (f := 57) rfl ?_); refine goesL_ (some 16) rfl rfl Tryz.func57 (by kernel_rfl) rfl #[.slice A0 l0.length c0] rfl ql ?_; (with_reducible refine (safe_Total.calls k _ _ l0 t353 true _ ?side1 ?side2 A3.out).mono ?_); (case side1 => repeat (first | exact HR0.out | (with_reducible refine Kd.C_alloc ?_ _) | (with_reducible refine Kd.C_drewN ?_ _) | (with_reducible refine Kd.C_drew ?_))); (case side2 => exact HC0.out); rintro e w' ⟨rfl, ⟨nd, rfl⟩⟩; refine ⟨_, rfl, ?_⟩))
    go_ret2
    exact ⟨by first | rfl | (simp; done) | (simp [*]; done), by repeat (first | exact Drawn0.refl _ | apply Drawn0.step)⟩
   ·rw [if_neg c5] at H
    have c5b0 : (t353 == 0) = false := beq_eq_false_iff_ne.mpr c5
    have c5b1 : (t353 != 0) = true := bne_iff_ne.mpr c5
    replace H := Option.bind_eq_some_iff.mp H
    obtain ⟨⟨t355, t356⟩, A60, H⟩ := H
    try dsimp only at H
    have A6 := Aside0.mk A60
    clear A60
    by_cases c7 : t356 = true
    ·subst c7
     have H1 : (some (t353, 0)) = some (r1, r2) := by rw [if_pos rfl] at H; exact H
     clear H
     have H := H1
     clear H1
     simp only [Option.some.injEq, Prod.mk.injEq] at H
     obtain ⟨rfl, rfl⟩ := H
     go_enter Tryz.func45, Tryz.ntmps45
     go_wp2_with (first | ((with_reducible refine gate_callee (f := 57) rfl ?_); refine goesL_ (some 16) rfl rfl Tryz.func57 (by kernel_rfl) rfl #[.slice A0 l0.length c0] rfl ql ?_; (with_reducible refine (safe_Total.calls k _ _ l0 t353 true _ ?side1 ?side2 A3.out).mono ?_); (case side1 => repeat (first | exact HR0.out | (with_reducible refine Kd.C_alloc ?_ _) | (with_reducible refine Kd.C_drewN ?_ _) | (with_reducible refine Kd.C_drew ?_))); (case side2 => exact HC0.out); rintro e w' ⟨rfl, ⟨nd, rfl⟩⟩; refine ⟨_, rfl, ?_⟩) | ((with_reducible refine gate_callee (f := 76) rfl ?_); refine goesL_ (some 26) rfl rfl Tryz.func76 (by kernel_rfl) rfl #[.int .u64 (IntKind.u64.wrap ((l0.length : Int))), .int .u64 t353] rfl ql ?_; (with_reducible refine (safe_Mul.calls (IntKind.u64.wrap ((l0.length : Int))) t353 t355 true _ A6.out).mono ?_); rintro e w' ⟨rfl, ⟨nd, rfl⟩⟩; refine ⟨_, rfl, ?_⟩))
     go_ret2
     exact ⟨by first | rfl | (simp; done) | (simp [*]; done), by repeat (first | exact Drawn0.refl _ | apply Drawn0.step)⟩
    ·replace c7 := Bool.eq_false_iff.mpr c7
     subst c7
     have H1 : (some (0, 11)) = some (r1, r2) := by rw [if_neg (show ¬ (false = true) by decide)] at H; exact H
     clear H
     have H := H1
     clear H1
     simp only [Option.some.injEq, Prod.mk.injEq] at H
     obtain ⟨rfl, rfl⟩ := H
     go_enter Tryz.func45, Tryz.ntmps45
     go_wp2_with (first | ((with_reducible refine gate_callee (f := 57) rfl ?_); refine goesL_ (some 16) rfl rfl Tryz.func57 (by kernel_rfl) rfl #[.slice A0 l0.length c0] rfl ql ?_; (with_reducible refine (safe_Total.calls k _ _ l0 t353 true _ ?side1 ?side2 A3.out).mono ?_); (case side1 => repeat (first | exact HR0.out | (with_reducible refine Kd.C_alloc ?_ _) | (with_reducible refine Kd.C_drewN ?_ _) | (with_reducible refine Kd.C_drew ?_))); (case side2 => exact HC0.out); rintro e w' ⟨rfl, ⟨nd, rfl⟩⟩; refine ⟨_, rfl, ?_⟩) | ((with_reducible refine gate_callee (f := 76) rfl ?_); refine goesL_ (some 26) rfl rfl Tryz.func76 (by kernel_rfl) rfl #[.int .u64 (IntKind.u64.wrap ((l0.length : Int))), .int .u64 t353] rfl ql ?_; (with_reducible refine (safe_Mul.calls (IntKind.u64.wrap ((l0.length : Int))) t353 t355 false _ A6.out).mono ?_); rintro e w' ⟨rfl, ⟨nd, rfl⟩⟩; refine ⟨_, rfl, ?_⟩))
     go_ret2
     exact ⟨by first | rfl | (simp; done) | (simp [*]; done), by repeat (first | exact Drawn0.refl _ | apply Drawn0.step)⟩
  ·replace c4 := Bool.eq_false_iff.mpr c4
   subst c4
   have H1 : (some (0, 11)) = some (r1, r2) := by rw [if_neg (show ¬ (false = true) by decide)] at H; exact H
   clear H
   have H := H1
   clear H1
   simp only [Option.some.injEq, Prod.mk.injEq] at H
   obtain ⟨rfl, rfl⟩ := H
   go_enter Tryz.func45, Tryz.ntmps45
   go_wp2_with (first | ((with_reducible refine gate_callee (f := 57) rfl ?_); refine goesL_ (some 16) rfl rfl Tryz.func57 (by kernel_rfl) rfl #[.slice A0 l0.length c0] rfl ql ?_; (with_reducible refine (safe_Total.calls k _ _ l0 t353 false _ ?side1 ?side2 A3.out).mono ?_); (case side1 => repeat (first | exact HR0.out | (with_reducible refine Kd.C_alloc ?_ _) | (with_reducible refine Kd.C_drewN ?_ _) | (with_reducible refine Kd.C_drew ?_))); (case side2 => exact HC0.out); rintro e w' ⟨rfl, ⟨nd, rfl⟩⟩; refine ⟨_, rfl, ?_⟩))
   go_ret2
   exact ⟨by first | rfl | (simp; done) | (simp [*]; done), by repeat (first | exact Drawn0.refl _ | apply Drawn0.step)⟩
end Go.Proofs.YtekmngghebpciaaGreat.PW
end
