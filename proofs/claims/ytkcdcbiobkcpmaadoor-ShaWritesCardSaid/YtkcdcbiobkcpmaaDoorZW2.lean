/- Proved here: LawShaWrites, the statement of the row that this text's last part names, and all that it rests on: words on walks, contracts of the program's functions, plain lemmas. Conditions: none but those of the given row. (part 3 of 7) -/
import Derived.Test.YtkcdcbiobkcpmaaDoorZW1
section
namespace Go.Proofs.YtkcdcbiobkcpmaaDoor.PA
open Go.RowKit Go.Proofs.YtkcdcbiobkcpmaaDoorW.PrintWords Go.Proofs.YtkcdcbiobkcpmaaDoorW.PrintLast Go.Proofs.YtkcdcbiobkcpmaaDoorW.PrintMore
attribute [local go_sem] max2_int min2_int max_two min_two max_three min_three max_four min_four
set_option linter.unusedVariables false
set_option linter.unusedSimpArgs false
def comp_Start.f  : Option (List Int) := some [1779033703, 3144134277, 1013904242, 2773480762, 1359893119, 2600822924, 528734635, 1541459225]
set_option maxHeartbeats 8000000 in
set_option maxRecDepth 100000 in
theorem comp_Start.calls  (r : List Int) (w : World) (h : comp_Start.f  = some r) :
    Calls Tryd.prog 37 #[] w fun e w' => e = .returned (.agg (Ar.cells .u32 8 r)) ∧ Below w.heap.size w w' := by
  have HB := Aside0.mk (Below.refl w.heap.size w)
  have H : (some [1779033703, 3144134277, 1013904242, 2773480762, 1359893119, 2600822924, 528734635, 1541459225]) = some r := h
  clear h
  obtain rfl := Option.some.inj H
  go_enter Tryd.func37, Tryd.ntmps37
  go_wp2_with (first | ((with_reducible refine gate_dst (N := 0) rfl ?_); (try (refine gate_guard (by rfl) ?_; dsimp only)); refine qE (N := 0) (cs := (Ar.cells .u32 8 (List.replicate 8 0))) (t := 33) ?_; intro gb150 hg w1 hbox hb; have BK150 := Aside0.mk (hbox); have GW150 := Aside0.mk ((qe HB hg : w.heap.size ≤ gb150)); have GE150 := Aside0.mk ((qe HB hg : w.heap.size ≤ gb150)); replace HB := Aside0.mk (below_step (qs HB) hb); clear hb hbox hg) | ((with_reducible refine gate_dst (N := 1) rfl ?_); (try (refine gate_guard (by rfl) ?_; dsimp only)); refine Ar.build_event rfl (D := 1) rfl (T := 33) rfl (k := .u32) (n := 8) (l := [1779033703, 3144134277, 1013904242, 2773480762, 1359893119, 2600822924, 528734635, 1541459225]) Tryd.underlying33 (by kernel_rfl) (by kernel_rfl) [(0, 1779033703), (1, 3144134277), (2, 1013904242), (3, 2773480762), (4, 1359893119), (5, 2600822924), (6, 528734635), (7, 1541459225)] (by rfl) (by rfl) (by rfl) ?_) | ((with_reducible refine gate_store (t := 33) (p := 0) rfl ?_); refine Ar.store_all_event rfl rfl rfl Tryd.underlying33 (by kernel_rfl) (g := gb150) rfl (z := [1779033703, 3144134277, 1013904242, 2773480762, 1359893119, 2600822924, 528734635, 1541459225]) qg (qb BK150) ?_; intro w2 hbk_ hg; replace BK150 := Aside0.mk (hbk_); replace HB := Aside0.mk (Below.grown (qs HB) hg ((below_size (qs HB))) (fun _ e_ => by cases e_; exact GE150.out)); clear hbk_ hg))
  refine bodyPost_ret (results_cell_row rfl _ _ gb150 33 (Ar.cells .u32 8 [1779033703, 3144134277, 1013904242, 2773480762, 1359893119, 2600822924, 528734635, 1541459225]) (0, 0) _ rfl (qb BK150) Tryd.underlying33 rfl qZ) rfl ?_
  exact ⟨by first | rfl | (simp [errW_none, errW_some] <;> rfl) | (simp [*, errW_none, errW_some] <;> rfl), by repeat (first | (with_reducible first | exact HB.out | apply below_alloc | apply pw_below_drewN | apply below_drew1 | refine below_set ?_ GE150.out) | exact HB.out)⟩
def sha_New.f  : Option (List Int × List Int × Int) := (comp_Start.f).bind fun t152 => (some (t152, ([] : List Int), 0))
set_option maxHeartbeats 8000000 in
set_option maxRecDepth 100000 in
theorem sha_New.calls  (r1 : List Int) (r2 : List Int) (r3 : Int) (w : World) (h : sha_New.f  = some (r1, r2, r3)) :
    Calls Tryd.prog 20 #[] w fun e w' => ∃ v1_ : Value, e = .returned (.agg (Ar.cells .u32 8 r1 ++ #[v1_, .int .u64 r3])) ∧ Kd.R (Kd.int .u8) 5 w' w.heap.size (fun _ => True) v1_ r2 ∧ Below w.heap.size w w' := by
  have hu36 := Tryd.underlying36
  have HB := Aside0.mk (Below.refl w.heap.size w)
  have H : ((comp_Start.f).bind fun t152 => (some (t152, ([] : List Int), 0))) = some (r1, r2, r3) := h
  clear h
  replace H := Option.bind_eq_some_iff.mp H
  obtain ⟨t152, A10, H⟩ := H
  replace H : (some (t152, ([] : List Int), 0)) = some (r1, r2, r3) := H
  have A1 := Aside0.mk A10
  clear A10
  simp only [Option.some.injEq, Prod.mk.injEq] at H
  obtain ⟨rfl, rfl, rfl⟩ := H
  go_enter Tryd.func20, Tryd.ntmps20
  go_wp2_with (first | ((with_reducible refine gate_dst (N := 0) rfl ?_); (try (refine gate_guard (by rfl) ?_; dsimp only)); refine qF (N := 0) (cs := ((Ar.cells .u32 8 (List.replicate 8 0)) ++ #[.slice none 0 0, .int .u64 0])) (t := 36) ?_; intro gb151 hg w2 hbox hb; have BK151 := Aside0.mk (hbox); have GW151 := Aside0.mk ((qe HB hg : w.heap.size ≤ gb151)); have GE151 := Aside0.mk ((qe HB hg : w.heap.size ≤ gb151)); replace HB := Aside0.mk (below_step (qs HB) hb); clear hb hbox hg) | ((with_reducible refine gate_callee (f := 37) rfl ?_); refine goesL_ (some 1) rfl rfl Tryd.func37 (by kernel_rfl) rfl #[] rfl ql ?_; (with_reducible refine (comp_Start.calls  t152 _ A1.out).mono ?_); rintro e w3 ⟨rfl, hb⟩; refine ⟨_, rfl, ?_⟩; replace BK151 := Aside0.mk (qB BK151 hb); replace HB := Aside0.mk (below_step (qs HB) hb); (try clear hb); (try clear hb2); (try clear hk); (try clear hi)) | ((with_reducible refine gate_dst (N := 2) rfl ?_); (try (refine gate_guard (by rfl) ?_; dsimp only)); refine Ar.gbuild_event rfl (T := 36) rfl (D := ((Ar.cells .u32 8 t152) ++ #[.slice none 0 0, .int .u64 0])) (by simp only [List.map_toArray, List.map_cons, List.map_nil]; exact fatBuild36_0 _ t152) ?_) | ((with_reducible refine gate_store (t := 36) (p := 0) rfl ?_); refine Ar.gstore_event rfl rfl rfl (D := ((Ar.cells .u32 8 t152) ++ #[.slice none 0 0, .int .u64 0])) qz (g := gb151) rfl qg (qb BK151) (by simp [Ar.cells_size]) (by repeat (first | (with_reducible refine Ar.all_app ?_ ?_) | (with_reducible exact Ar.cells_one _ _ _) | (focus (simp [Value.oneCell']; done)) | rfl)) ?_; intro w4 hbk_ hg; replace BK151 := Aside0.mk (hbk_); replace HB := Aside0.mk (Below.grown (qs HB) hg ((below_size (qs HB))) (fun _ e_ => by cases e_; exact GE151.out)); clear hbk_ hg))
  refine bodyPost_ret (results_cell_row rfl _ _ gb151 36 ((Ar.cells .u32 8 t152) ++ #[.slice none 0 0, .int .u64 0]) (0, 0) _ rfl (qb BK151) Tryd.underlying36 rfl qZ) rfl ?_
  exact ⟨_, by first | rfl | (simp [errW_none, errW_some] <;> rfl) | (simp [*, errW_none, errW_some] <;> rfl), by first | exact Kd.R_nil _ _ _ _ _ | exact Kd.N_nil _ _ _ _ _ | exact Kd.V_nil _ _ _ _ _ | exact Kd.Q_nil _ _ _ _ _ | exact Kd.S_nil _ _ _ _ _, by repeat (first | (with_reducible first | exact HB.out | apply below_alloc | apply pw_below_drewN | apply below_drew1 | refine below_set ?_ GE151.out) | exact HB.out)⟩
def sha_Sum.f (k : Nat) (l0 : List (List Int)) : Option (List Int) := (sha_New.f).bind fun bt154 => ((sha_Write.f k bt154.1 bt154.2.1 bt154.2.2 l0).bind fun bt159 => ((sha_Finish.f k bt159.1 bt159.2.1 bt159.2.2.1).bind fun bt166 => (some bt166.1)))
theorem sha_Sum.mono : ∀ a0 k, LeO (sha_Sum.f k a0) (sha_Sum.f (k + 1) a0) := by
 intro a0 k
 unfold sha_Sum.f
 repeat' first
   | (with_reducible exact sha_Finish.mono _ _ _ _)
   | (with_reducible exact sha_Write.mono _ _ _ _ _)
   | (with_reducible exact LeO.refl _)
   | (with_reducible exact LeO.none _)
   | (with_reducible refine LeO.ite ?_ ?_)
   | (with_reducible refine LeO.bind ?_ (fun _ => ?_))
   | exact sha_Finish.mono _ _ _ _
   | exact sha_Write.mono _ _ _ _ _
   | exact LeO.none _
   | refine LeO.ite ?_ ?_
   | refine LeO.bind ?_ (fun _ => ?_)
set_option maxHeartbeats 8000000 in
set_option maxRecDepth 100000 in
theorem sha_Sum.calls (k : Nat) (A0 : Option Addr) (c0 : Nat) (l0 : List (List Int)) (r : List Int) (w : World) (hr0 : Kd.C (Kd.slice 5 (Kd.int .u8)) w A0 l0.length l0) (hc0 : l0.length ≤ c0) (h : sha_Sum.f k l0 = some r) :
  Calls Tryd.prog 9 #[.slice A0 l0.length c0] w fun e w' => e = .returned (.agg (Ar.cells .u8 32 r)) ∧ Below w.heap.size w w' := by
 have hu36 := Tryd.underlying36
 have HR0 := Aside0.mk hr0
 have HC0 := Aside0.mk hc0
 clear hr0 hc0
 have HB := Aside0.mk (Below.refl w.heap.size w)
 have H : ((sha_New.f).bind fun bt154 => ((sha_Write.f k bt154.1 bt154.2.1 bt154.2.2 l0).bind fun bt159 => ((sha_Finish.f k bt159.1 bt159.2.1 bt159.2.2.1).bind fun bt166 => (some bt166.1)))) = some r := h
 clear h
 replace H := Option.bind_eq_some_iff.mp H
 obtain ⟨⟨t154, t155, t158⟩, A20, H⟩ := H
 replace H : ((sha_Write.f k t154 t155 t158 l0).bind fun bt159 => ((sha_Finish.f k bt159.1 bt159.2.1 bt159.2.2.1).bind fun bt166 => (some bt166.1))) = some r := H
 have A2 := Aside0.mk A20
 clear A20
 replace H := Option.bind_eq_some_iff.mp H
 obtain ⟨⟨t159, t160, t163, t164⟩, A30, H⟩ := H
 replace H : ((sha_Finish.f k t159 t160 t163).bind fun bt166 => (some bt166.1)) = some r := H
 have A3 := Aside0.mk A30
 clear A30
 replace H := Option.bind_eq_some_iff.mp H
 obtain ⟨⟨t166, t167⟩, A40, H⟩ := H
 replace H : (some t166) = some r := H
 have A4 := Aside0.mk A40
 clear A40
 obtain rfl := Option.some.inj H
 go_enter Tryd.func9, Tryd.ntmps9
 go_wp2_with (first | ((with_reducible refine gate_dst (N := 2) rfl ?_); (try (refine gate_guard (by rfl) ?_; dsimp only)); refine qE (N := 2) (cs := (Ar.cells .u8 32 (List.replicate 32 0))) (t := 26) ?_; intro gb153 hg w5 hbox hb; have BK153 := Aside0.mk (hbox); have GW153 := Aside0.mk ((qe HB hg : w.heap.size ≤ gb153)); have GE153 := Aside0.mk ((qe HB hg : w.heap.size ≤ gb153)); replace HB := Aside0.mk (below_step (qs HB) hb); clear hb hbox hg) | ((with_reducible refine gate_callee (f := 20) rfl ?_); refine goesL_ (some 8) rfl rfl Tryd.func20 (by kernel_rfl) rfl #[] rfl ql ?_; (with_reducible refine (sha_New.calls  t154 t155 t158 _ A2.out).mono ?_); rintro e w6 ⟨v156, rfl, ho0, hb⟩; refine ⟨_, rfl, ?_⟩; have HO157 := Aside0.mk (Kd.R_lower ho0 (below_size (qs HB))); replace BK153 := Aside0.mk (qB BK153 hb); replace HB := Aside0.mk (below_step (qs HB) hb); (try clear hb); (try clear hb2); (try clear hk); (try clear hi); (try clear ho0); obtain ⟨Ao7, co7, eo7⟩ := Kd.R_slice HO157.out; subst eo7) | ((with_reducible refine gate_callee (f := 12) rfl ?_); refine goesL_ (some 10) rfl rfl Tryd.func12 (by kernel_rfl) rfl #[.agg ((Ar.cells .u32 8 t154) ++ #[.slice Ao7 t155.length co7, .int .u64 t158]), .slice A0 l0.length c0] rfl ql ?_; (with_reducible refine (sha_Write.calls k t154 (fun k_ => some k_ = (.slice Ao7 t155.length co7 : Value).ownBlock) _ _ t155 t158 _ _ l0 t159 t160 t163 t164 _ ?side1 ?side2 ?side3 A3.out).mono ?_); (case side1 => exact Kd.R_V (Kd.R_tight rfl (Kd.R_types (HO157.out) BK153.out (by decide)))); (case side2 => repeat (first | exact (Kd.C_below HR0.out HB.out) | (with_reducible refine Kd.C_alloc ?_ _) | (with_reducible refine Kd.C_drewN ?_ _) | (with_reducible refine Kd.C_drew ?_))); (case side3 => exact HC0.out); rintro e w8 ⟨v161, rfl, ho0, hb⟩; refine ⟨_, rfl, ?_⟩; have HO162 := Aside0.mk (Kd.V_lower (Kd.V_mono (ok' := fun k_ => k_ ≠ gb153) ho0 (fun k_ hk_ => Or.elim hk_ (fun hs_ => ((Kd.R_types (HO157.out) BK153.out (by decide)).1 k_ hs_.symm).2) (fun hn_ => (Kd.freshB (g := gb153) (o := .cells (Ar.cells .u8 32 (List.replicate 32 0)) 26 (0, 0)) (qb BK153) k_ hn_)))) (below_size (qs HB))); replace HO157 := Aside0.mk (Kd.R_below (qr HO157) hb); replace BK153 := Aside0.mk (qB BK153 hb); replace HB := Aside0.mk (below_step (qs HB) hb); (try clear hb); (try clear hb2); (try clear hk); (try clear hi); (try clear ho0)) | ((with_reducible refine gate_dst (N := 3) rfl ?_); (try (refine gate_guard (by rfl) ?_; dsimp only)); refine qF (N := 3) (cs := ((Ar.cells .u32 8 (List.replicate 8 0)) ++ #[.slice none 0 0, .int .u64 0])) (t := 36) ?_; intro gb165 hg w9 hbox hb; replace HO157 := Aside0.mk (Kd.R_below (qr HO157) hb); replace HO162 := Aside0.mk (Kd.V_below (Kd.V_elderB (qv HO162) gb165 (Nat.le_of_eq hg.symm)) hb); have BK165 := Aside0.mk (hbox); have GW165 := Aside0.mk ((qe HB hg : w.heap.size ≤ gb165)); have GE165 := Aside0.mk ((qe HB hg : w.heap.size ≤ gb165)); replace HB := Aside0.mk (below_step (qs HB) hb); have NB153_165 := Aside0.mk ((qu BK153 hg : gb153 ≠ gb165)); have NB165_153 := Aside0.mk ((qw BK153 hg : gb165 ≠ gb153)); replace BK153 := Aside0.mk (qB BK153 hb); clear hb hbox hg) | ((with_reducible refine gate_store (t := 36) (p := 3) rfl ?_); refine Ar.gstore_event rfl rfl rfl (D := ((Ar.cells .u32 8 t159) ++ #[v161, .int .u64 t163])) qz (g := gb165) rfl qg (qb BK165) (by simp [Ar.cells_size]) (by repeat (first | (with_reducible refine Ar.all_app ?_ ?_) | (with_reducible exact Ar.cells_one _ _ _) | (focus (simp [Value.oneCell']; done)) | (focus (simp [(show (v161 : Value).oneCell' = true from by (have e_ := Kd.V_slice HO162.out; obtain ⟨_, _, e_⟩ := e_; rw [e_]; rfl))]; first | done | rfl | (repeat' constructor))) | rfl)) ?_; intro w10 hbk_ hg; replace BK153 := Aside0.mk (qG BK153 hg (fun e_ => NB153_165.out (Option.some.inj e_))); replace HO157 := Aside0.mk (Kd.R_mono (Kd.R_grown (Kd.R_types (qr HO157) BK165.out (by decide)) hg (fun k_ hk_ e_ => hk_.2 (Option.some.inj e_))) (fun _ h_ => h_.1)); replace HO162 := Aside0.mk (Kd.V_grown (qv HO162) hg (by intro k_ hk e_; exact (hk.2) (Option.some.inj e_))); replace BK165 := Aside0.mk (hbk_); replace HB := Aside0.mk (Below.grown (qs HB) hg ((below_size (qs HB))) (fun _ e_ => by cases e_; exact GE165.out)); clear hbk_ hg; obtain ⟨Ao11, co11, eo11⟩ := Kd.V_slice HO162.out; subst eo11) | ((with_reducible refine gate_dst (N := 14) rfl ?_); (try (refine gate_guard (by rfl) ?_; dsimp only)); refine Ar.gload_event rfl (T := 36) rfl Tryd.underlying36 rfl (D := ((Ar.cells .u32 8 t159) ++ #[.slice Ao11 t160.length co11, .int .u64 t163])) qz (A := ⟨gb165, 0, none⟩) rfl (Ar.blk_part (qb BK165) Ar.in_whole) ?_) | ((with_reducible refine gate_callee (f := 14) rfl ?_); refine goesL_ (some 15) rfl rfl Tryd.func14 (by kernel_rfl) rfl #[.agg ((Ar.cells .u32 8 t159) ++ #[.slice Ao11 t160.length co11, .int .u64 t163])] rfl ql ?_; (with_reducible refine (sha_Finish.calls k t159 _ _ t160 t163 t166 t167 _ ?side1 ?side2 A4.out).mono ?_); (case side1 => repeat (first | exact (Kd.V_reads' HO162.out).2.2 | (with_reducible refine Kd.C_alloc ?_ _) | (with_reducible refine Kd.C_drewN ?_ _) | (with_reducible refine Kd.C_drew ?_))); (case side2 => exact (Kd.V_reads' HO162.out).2.1); rintro e w12 ⟨rfl, hb⟩; refine ⟨_, rfl, ?_⟩; replace HO157 := Aside0.mk (Kd.R_below (qr HO157) hb); replace HO162 := Aside0.mk (Kd.V_below (qv HO162) hb); replace BK153 := Aside0.mk (qB BK153 hb); replace BK165 := Aside0.mk (qB BK165 hb); replace HB := Aside0.mk (below_step (qs HB) hb); (try clear hb); (try clear hb2); (try clear hk); (try clear hi)) | ((with_reducible refine gate_dst (N := 5) rfl ?_); (try (refine gate_guard (by rfl) ?_; dsimp only)); refine qE (N := 5) (cs := (Ar.cells .u8 32 (List.replicate 32 0))) (t := 26) ?_; intro gb168 hg w13 hbox hb; replace HO157 := Aside0.mk (Kd.R_below (qr HO157) hb); replace HO162 := Aside0.mk (Kd.V_below (Kd.V_elderB (qv HO162) gb168 (Nat.le_of_eq hg.symm)) hb); have BK168 := Aside0.mk (hbox); have GW168 := Aside0.mk ((qe HB hg : w.heap.size ≤ gb168)); have GE168 := Aside0.mk ((qe HB hg : w.heap.size ≤ gb168)); replace HB := Aside0.mk (below_step (qs HB) hb); have NB153_168 := Aside0.mk ((qu BK153 hg : gb153 ≠ gb168)); have NB168_153 := Aside0.mk ((qw BK153 hg : gb168 ≠ gb153)); replace BK153 := Aside0.mk (qB BK153 hb); have NB165_168 := Aside0.mk ((qu BK165 hg : gb165 ≠ gb168)); have NB168_165 := Aside0.mk ((qw BK165 hg : gb168 ≠ gb165)); replace BK165 := Aside0.mk (qB BK165 hb); clear hb hbox hg) | ((with_reducible refine gate_store (t := 26) (p := 5) rfl ?_); refine Ar.store_all_event rfl rfl rfl Tryd.underlying26 (by kernel_rfl) (g := gb168) rfl (z := t166) qg (qb BK168) ?_; intro w14 hbk_ hg; replace BK153 := Aside0.mk (qG BK153 hg (fun e_ => NB153_168.out (Option.some.inj e_))); replace HO157 := Aside0.mk (Kd.R_mono (Kd.R_grown (Kd.R_types (qr HO157) BK168.out (by decide)) hg (fun k_ hk_ e_ => hk_.2 (Option.some.inj e_))) (fun _ h_ => h_.1)); replace HO162 := Aside0.mk (Kd.V_grown (qv HO162) hg (by intro k_ hk e_; exact (hk.2) (Option.some.inj e_))); replace BK165 := Aside0.mk (qG BK165 hg (fun e_ => NB165_168.out (Option.some.inj e_))); replace BK168 := Aside0.mk (hbk_); replace HB := Aside0.mk (Below.grown (qs HB) hg ((below_size (qs HB))) (fun _ e_ => by cases e_; exact GE168.out)); clear hbk_ hg) | ((with_reducible refine gate_dst (N := 18) rfl ?_); (try (refine gate_guard (by rfl) ?_; dsimp only)); refine Ar.load_event rfl (D := 18) rfl (T := 26) rfl Tryd.underlying26 (by kernel_rfl) (g := gb168) rfl (qb BK168) ?_) | ((with_reducible refine gate_store (t := 26) (p := 2) rfl ?_); refine Ar.store_all_event rfl rfl rfl Tryd.underlying26 (by kernel_rfl) (g := gb153) rfl (z := t166) qg (qb BK153) ?_; intro w15 hbk_ hg; replace HO157 := Aside0.mk (Kd.R_mono (Kd.R_grown (Kd.R_types (qr HO157) BK153.out (by decide)) hg (fun k_ hk_ e_ => hk_.2 (Option.some.inj e_))) (fun _ h_ => h_.1)); replace HO162 := Aside0.mk (Kd.V_grown (qv HO162) hg (by intro k_ hk e_; exact (hk.1.1) (Option.some.inj e_))); replace BK165 := Aside0.mk (qG BK165 hg (fun e_ => NB165_153.out (Option.some.inj e_))); replace BK168 := Aside0.mk (qG BK168 hg (fun e_ => NB168_153.out (Option.some.inj e_))); replace BK153 := Aside0.mk (hbk_); replace HB := Aside0.mk (Below.grown (qs HB) hg ((below_size (qs HB))) (fun _ e_ => by cases e_; exact GE153.out)); clear hbk_ hg))
 refine bodyPost_ret (results_cell_row rfl _ _ gb153 26 (Ar.cells .u8 32 t166) (0, 0) _ rfl (qb BK153) Tryd.underlying26 rfl qZ) rfl ?_
 exact ⟨by first | rfl | (simp [errW_none, errW_some] <;> rfl) | (simp [*, errW_none, errW_some] <;> rfl), by repeat (first | (with_reducible first | exact HB.out | apply below_alloc | apply pw_below_drewN | apply below_drew1 | refine below_set ?_ GE153.out | refine below_set ?_ GE165.out | refine below_set ?_ GE168.out) | exact HB.out)⟩
def bytes_Equal.f (l0 : List Int) (l1 : List Int) : Option (Bool) := some ((strOfNums l0).toList == (strOfNums l1).toList)
set_option maxHeartbeats 8000000 in
set_option maxRecDepth 100000 in
theorem bytes_Equal.calls (A0 : Option Addr) (c0 : Nat) (l0 : List Int) (A1 : Option Addr) (c1 : Nat) (l1 : List Int) (r : Bool) (w : World) (hr0 : Kd.C (Kd.int .u8) w A0 l0.length l0) (hc0 : l0.length ≤ c0) (hr1 : Kd.C (Kd.int .u8) w A1 l1.length l1) (hc1 : l1.length ≤ c1) (h : bytes_Equal.f l0 l1 = some r) :
    Calls Tryd.prog 36 #[.slice A0 l0.length c0, .slice A1 l1.length c1] w fun e w' => e = .returned (.bool r) ∧ Drawn0 w w' := by
  have HR0 := Aside0.mk hr0
  have HC0 := Aside0.mk hc0
  clear hr0 hc0
  have HR1 := Aside0.mk hr1
  have HC1 := Aside0.mk hc1
  clear hr1 hc1
  have H : (some ((strOfNums l0).toList == (strOfNums l1).toList)) = some r := h
  clear h
  obtain rfl := Option.some.inj H
  have hcv3 := Kd.C_string (P := Tryd.prog) (A := A0) (c := c0) Tryd.underlying29 Tryd.underlying5 Tryd.underlying9 HR0.out
  have hcv4 := Kd.C_string (P := Tryd.prog) (A := A1) (c := c1) Tryd.underlying29 Tryd.underlying5 Tryd.underlying9 HR1.out
  go_enter Tryd.func36, Tryd.ntmps36
  go_wp2
  go_ret
  exact ⟨by first | rfl | (simp; done) | (simp [*]; done), by repeat (first | exact Drawn0.refl _ | apply Drawn0.step)⟩
def sha_Same.f (a0_0 : List Int) (l0_1 : List Int) (a0_2 : Int) (a1_0 : List Int) (l1_1 : List Int) (a1_2 : Int) : Option (Bool) := if (Ar.eqb 8 a0_0 a1_0) = true then ((bytes_Equal.f l0_1 l1_1).bind fun t171 => (if t171 = true then (some (a0_2 == a1_2)) else (some false))) else (some false)
set_option maxHeartbeats 8000000 in
set_option maxRecDepth 100000 in
theorem sha_Same.calls (a0_0 : List Int) (A0_1 : Option Addr) (c0_1 : Nat) (l0_1 : List Int) (a0_2 : Int) (a1_0 : List Int) (A1_1 : Option Addr) (c1_1 : Nat) (l1_1 : List Int) (a1_2 : Int) (r : Bool) (w : World) (hr0_1 : Kd.C (Kd.int .u8) w A0_1 l0_1.length l0_1) (hc0_1 : l0_1.length ≤ c0_1) (hr1_1 : Kd.C (Kd.int .u8) w A1_1 l1_1.length l1_1) (hc1_1 : l1_1.length ≤ c1_1) (h : sha_Same.f a0_0 l0_1 a0_2 a1_0 l1_1 a1_2 = some r) :
  Calls Tryd.prog 19 #[.agg (Ar.cells .u32 8 a0_0 ++ #[.slice A0_1 l0_1.length c0_1, .int .u64 a0_2]), .agg (Ar.cells .u32 8 a1_0 ++ #[.slice A1_1 l1_1.length c1_1, .int .u64 a1_2])] w fun e w' => e = .returned (.bool r) ∧ Below w.heap.size w w' := by
 have hu36 := Tryd.underlying36
 have HR0_1 := Aside0.mk hr0_1
 have HC0_1 := Aside0.mk hc0_1
 clear hr0_1 hc0_1
 have HR1_1 := Aside0.mk hr1_1
 have HC1_1 := Aside0.mk hc1_1
 clear hr1_1 hc1_1
 have HB := Aside0.mk (Below.refl w.heap.size w)
 have H : (if (Ar.eqb 8 a0_0 a1_0) = true then ((bytes_Equal.f l0_1 l1_1).bind fun t171 => (if t171 = true then (some (a0_2 == a1_2)) else (some false))) else (some false)) = some r := h
 clear h
 by_cases c3 : (Ar.eqb 8 a0_0 a1_0) = true
 ·rw [if_pos c3] at H
  have c3b0 : (Ar.eqb 8 a0_0 a1_0) = true := c3
  clear c3
  replace H := Option.bind_eq_some_iff.mp H
  obtain ⟨t171, A40, H⟩ := H
  replace H : (if t171 = true then (some (a0_2 == a1_2)) else (some false)) = some r := H
  have A4 := Aside0.mk A40
  clear A40
  by_cases c5 : t171 = true
  ·subst c5
   have H1 : (some (a0_2 == a1_2)) = some r := by rw [if_pos rfl] at H; exact H
   clear H
   have H := H1
   clear H1
   obtain rfl := Option.some.inj H
   go_enter Tryd.func19, Tryd.ntmps19
   go_wp2_with (first | ((with_reducible refine gate_dst (N := 2) rfl ?_); (try (refine gate_guard (by rfl) ?_; dsimp only)); refine qF (N := 2) (cs := ((Ar.cells .u32 8 a0_0) ++ #[.slice A0_1 l0_1.length c0_1, .int .u64 a0_2])) (t := 36) ?_; intro gb169 hg w6 hbox hb; have BK169 := Aside0.mk (hbox); have GW169 := Aside0.mk ((qe HB hg : w.heap.size ≤ gb169)); have GE169 := Aside0.mk ((qe HB hg : w.heap.size ≤ gb169)); replace HB := Aside0.mk (below_step (qs HB) hb); clear hb hbox hg) | ((with_reducible refine gate_dst (N := 3) rfl ?_); (try (refine gate_guard (by rfl) ?_; dsimp only)); refine qF (N := 3) (cs := ((Ar.cells .u32 8 a1_0) ++ #[.slice A1_1 l1_1.length c1_1, .int .u64 a1_2])) (t := 36) ?_; intro gb170 hg w7 hbox hb; have BK170 := Aside0.mk (hbox); have GW170 := Aside0.mk ((qe HB hg : w.heap.size ≤ gb170)); have GE170 := Aside0.mk ((qe HB hg : w.heap.size ≤ gb170)); replace HB := Aside0.mk (below_step (qs HB) hb); have NB169_170 := Aside0.mk ((qu BK169 hg : gb169 ≠ gb170)); have NB170_169 := Aside0.mk ((qw BK169 hg : gb170 ≠ gb169)); replace BK169 := Aside0.mk (qB BK169 hb); clear hb hbox hg) | ((with_reducible refine gate_dst (N := 6) rfl ?_); (try (refine gate_guard (by rfl) ?_; dsimp only)); refine Ar.gload_event rfl (T := 33) rfl Tryd.underlying33 rfl (D := (Ar.cells .u32 8 a0_0)) qz (A := ⟨gb169, 0, none⟩) rfl (Ar.blk_part (qb BK169) Ar.in_first) ?_) | ((with_reducible refine gate_dst (N := 8) rfl ?_); (try (refine gate_guard (by rfl) ?_; dsimp only)); refine Ar.gload_event rfl (T := 33) rfl Tryd.underlying33 rfl (D := (Ar.cells .u32 8 a1_0)) qz (A := ⟨gb170, 0, none⟩) rfl (Ar.blk_part (qb BK170) Ar.in_first) ?_) | ((with_reducible refine gate_dst (N := 9) rfl ?_); (try (refine gate_guard (by rfl) ?_; dsimp only)); refine Ar.eq_event rfl (D := 9) rfl (T := 33) (neq := false) rfl Tryd.underlying33 (by kernel_rfl) Tryd.underlying31 (by kernel_rfl) (k := .u32) (n := 8) (l := a0_0) (m := a1_0) qg qg ?_; dsimp only [if_true, if_false, Bool.false_eq_true]; have hnb8 := NB169_170.out; have hnc8 := NB170_169.out; have hcz9_1 : w7.cell? ⟨gb169, 8, none⟩ = some (.slice A0_1 l0_1.length c0_1) := (blk_cell BK169.out 8).trans qc; have hcz9_2 : w7.cell? ⟨gb169, 9, none⟩ = some (.int .u64 a0_2) := (blk_cell BK169.out 9).trans qc; have hcz10_1 : w7.cell? ⟨gb170, 8, none⟩ = some (.slice A1_1 l1_1.length c1_1) := (blk_cell BK170.out 8).trans qc; have hcz10_2 : w7.cell? ⟨gb170, 9, none⟩ = some (.int .u64 a1_2) := (blk_cell BK170.out 9).trans qc) | (go_at_call 36; (with_reducible refine (bytes_Equal.calls _ _ l0_1 _ _ l1_1 true _ ?side1 ?side2 ?side3 ?side4 A4.out).mono ?_); (case side1 => repeat (first | exact (Kd.C_below HR0_1.out HB.out) | (with_reducible refine Kd.C_alloc ?_ _) | (with_reducible refine Kd.C_drewN ?_ _) | (with_reducible refine Kd.C_drew ?_))); (case side2 => exact HC0_1.out); (case side3 => repeat (first | exact (Kd.C_below HR1_1.out HB.out) | (with_reducible refine Kd.C_alloc ?_ _) | (with_reducible refine Kd.C_drewN ?_ _) | (with_reducible refine Kd.C_drew ?_))); (case side4 => exact HC1_1.out); rintro e w' ⟨rfl, ⟨nd, rfl⟩⟩))
   go_ret
   exact ⟨by first | rfl | (simp [errW_none, errW_some] <;> rfl) | (simp [*, errW_none, errW_some] <;> rfl), by repeat (first | (with_reducible first | exact HB.out | apply below_alloc | apply pw_below_drewN | apply below_drew1 | refine below_set ?_ GE169.out | refine below_set ?_ GE170.out) | exact HB.out)⟩
  ·replace c5 := Bool.eq_false_iff.mpr c5
   subst c5
   have H1 : (some false) = some r := by rw [if_neg (show ¬ (false = true) by decide)] at H; exact H
   clear H
   have H := H1
   clear H1
   obtain rfl := Option.some.inj H
   go_enter Tryd.func19, Tryd.ntmps19
   go_wp2_with (first | ((with_reducible refine gate_dst (N := 2) rfl ?_); (try (refine gate_guard (by rfl) ?_; dsimp only)); refine qF (N := 2) (cs := ((Ar.cells .u32 8 a0_0) ++ #[.slice A0_1 l0_1.length c0_1, .int .u64 a0_2])) (t := 36) ?_; intro gb169 hg w11 hbox hb; have BK169 := Aside0.mk (hbox); have GW169 := Aside0.mk ((qe HB hg : w.heap.size ≤ gb169)); have GE169 := Aside0.mk ((qe HB hg : w.heap.size ≤ gb169)); replace HB := Aside0.mk (below_step (qs HB) hb); clear hb hbox hg) | ((with_reducible refine gate_dst (N := 3) rfl ?_); (try (refine gate_guard (by rfl) ?_; dsimp only)); refine qF (N := 3) (cs := ((Ar.cells .u32 8 a1_0) ++ #[.slice A1_1 l1_1.length c1_1, .int .u64 a1_2])) (t := 36) ?_; intro gb170 hg w12 hbox hb; have BK170 := Aside0.mk (hbox); have GW170 := Aside0.mk ((qe HB hg : w.heap.size ≤ gb170)); have GE170 := Aside0.mk ((qe HB hg : w.heap.size ≤ gb170)); replace HB := Aside0.mk (below_step (qs HB) hb); have NB169_170 := Aside0.mk ((qu BK169 hg : gb169 ≠ gb170)); have NB170_169 := Aside0.mk ((qw BK169 hg : gb170 ≠ gb169)); replace BK169 := Aside0.mk (qB BK169 hb); clear hb hbox hg) | ((with_reducible refine gate_dst (N := 6) rfl ?_); (try (refine gate_guard (by rfl) ?_; dsimp only)); refine Ar.gload_event rfl (T := 33) rfl Tryd.underlying33 rfl (D := (Ar.cells .u32 8 a0_0)) qz (A := ⟨gb169, 0, none⟩) rfl (Ar.blk_part (qb BK169) Ar.in_first) ?_) | ((with_reducible refine gate_dst (N := 8) rfl ?_); (try (refine gate_guard (by rfl) ?_; dsimp only)); refine Ar.gload_event rfl (T := 33) rfl Tryd.underlying33 rfl (D := (Ar.cells .u32 8 a1_0)) qz (A := ⟨gb170, 0, none⟩) rfl (Ar.blk_part (qb BK170) Ar.in_first) ?_) | ((with_reducible refine gate_dst (N := 9) rfl ?_); (try (refine gate_guard (by rfl) ?_; dsimp only)); refine Ar.eq_event rfl (D := 9) rfl (T := 33) (neq := false) rfl Tryd.underlying33 (by kernel_rfl) Tryd.underlying31 (by kernel_rfl) (k := .u32) (n := 8) (l := a0_0) (m := a1_0) qg qg ?_; dsimp only [if_true, if_false, Bool.false_eq_true]; have hnb13 := NB169_170.out; have hnc13 := NB170_169.out; have hcz14_1 : w12.cell? ⟨gb169, 8, none⟩ = some (.slice A0_1 l0_1.length c0_1) := (blk_cell BK169.out 8).trans qc; have hcz14_2 : w12.cell? ⟨gb169, 9, none⟩ = some (.int .u64 a0_2) := (blk_cell BK169.out 9).trans qc; have hcz15_1 : w12.cell? ⟨gb170, 8, none⟩ = some (.slice A1_1 l1_1.length c1_1) := (blk_cell BK170.out 8).trans qc; have hcz15_2 : w12.cell? ⟨gb170, 9, none⟩ = some (.int .u64 a1_2) := (blk_cell BK170.out 9).trans qc) | (go_at_call 36; (with_reducible refine (bytes_Equal.calls _ _ l0_1 _ _ l1_1 false _ ?side1 ?side2 ?side3 ?side4 A4.out).mono ?_); (case side1 => repeat (first | exact (Kd.C_below HR0_1.out HB.out) | (with_reducible refine Kd.C_alloc ?_ _) | (with_reducible refine Kd.C_drewN ?_ _) | (with_reducible refine Kd.C_drew ?_))); (case side2 => exact HC0_1.out); (case side3 => repeat (first | exact (Kd.C_below HR1_1.out HB.out) | (with_reducible refine Kd.C_alloc ?_ _) | (with_reducible refine Kd.C_drewN ?_ _) | (with_reducible refine Kd.C_drew ?_))); (case side4 => exact HC1_1.out); rintro e w' ⟨rfl, ⟨nd, rfl⟩⟩))
   go_ret
   exact ⟨by first | rfl | (simp [errW_none, errW_some] <;> rfl) | (simp [*, errW_none, errW_some] <;> rfl), by repeat (first | (with_reducible first | exact HB.out | apply below_alloc | apply pw_below_drewN | apply below_drew1 | refine below_set ?_ GE169.out | refine below_set ?_ GE170.out) | exact HB.out)⟩
 ·rw [if_neg c3] at H
  have c3b0 : (Ar.eqb 8 a0_0 a1_0) = false := by simpa using c3
  clear c3
  obtain rfl := Option.some.inj H
  go_enter Tryd.func19, Tryd.ntmps19
  go_wp2_with (first | ((with_reducible refine gate_dst (N := 2) rfl ?_); (try (refine gate_guard (by rfl) ?_; dsimp only)); refine qF (N := 2) (cs := ((Ar.cells .u32 8 a0_0) ++ #[.slice A0_1 l0_1.length c0_1, .int .u64 a0_2])) (t := 36) ?_; intro gb169 hg w16 hbox hb; have BK169 := Aside0.mk (hbox); have GW169 := Aside0.mk ((qe HB hg : w.heap.size ≤ gb169)); have GE169 := Aside0.mk ((qe HB hg : w.heap.size ≤ gb169)); replace HB := Aside0.mk (below_step (qs HB) hb); clear hb hbox hg) | ((with_reducible refine gate_dst (N := 3) rfl ?_); (try (refine gate_guard (by rfl) ?_; dsimp only)); refine qF (N := 3) (cs := ((Ar.cells .u32 8 a1_0) ++ #[.slice A1_1 l1_1.length c1_1, .int .u64 a1_2])) (t := 36) ?_; intro gb170 hg w17 hbox hb; have BK170 := Aside0.mk (hbox); have GW170 := Aside0.mk ((qe HB hg : w.heap.size ≤ gb170)); have GE170 := Aside0.mk ((qe HB hg : w.heap.size ≤ gb170)); replace HB := Aside0.mk (below_step (qs HB) hb); have NB169_170 := Aside0.mk ((qu BK169 hg : gb169 ≠ gb170)); have NB170_169 := Aside0.mk ((qw BK169 hg : gb170 ≠ gb169)); replace BK169 := Aside0.mk (qB BK169 hb); clear hb hbox hg) | ((with_reducible refine gate_dst (N := 6) rfl ?_); (try (refine gate_guard (by rfl) ?_; dsimp only)); refine Ar.gload_event rfl (T := 33) rfl Tryd.underlying33 rfl (D := (Ar.cells .u32 8 a0_0)) qz (A := ⟨gb169, 0, none⟩) rfl (Ar.blk_part (qb BK169) Ar.in_first) ?_) | ((with_reducible refine gate_dst (N := 8) rfl ?_); (try (refine gate_guard (by rfl) ?_; dsimp only)); refine Ar.gload_event rfl (T := 33) rfl Tryd.underlying33 rfl (D := (Ar.cells .u32 8 a1_0)) qz (A := ⟨gb170, 0, none⟩) rfl (Ar.blk_part (qb BK170) Ar.in_first) ?_) | ((with_reducible refine gate_dst (N := 9) rfl ?_); (try (refine gate_guard (by rfl) ?_; dsimp only)); refine Ar.eq_event rfl (D := 9) rfl (T := 33) (neq := false) rfl Tryd.underlying33 (by kernel_rfl) Tryd.underlying31 (by kernel_rfl) (k := .u32) (n := 8) (l := a0_0) (m := a1_0) qg qg ?_; dsimp only [if_true, if_false, Bool.false_eq_true]))
  go_ret
  exact ⟨by first | rfl | (simp [errW_none, errW_some] <;> rfl) | (simp [*, errW_none, errW_some] <;> rfl), by repeat (first | (with_reducible first | exact HB.out | apply below_alloc | apply pw_below_drewN | apply below_drew1 | refine below_set ?_ GE169.out | refine below_set ?_ GE170.out) | exact HB.out)⟩
def strings_IndexByte.f (a0 : ByteArray) (a1 : Int) : Option Int := some (Lib.indexByte a0.data.toList a1.toNat.toUInt8)
theorem strings_IndexByte.calls (a0 : ByteArray) (a1 : Int) (r : Int) (w : World) (h : strings_IndexByte.f a0 a1 = some r) :
    Calls Tryd.prog 39 #[.string a0, .int .u8 a1] w fun e w' => e = .returned (.int .i64 r) ∧ Below w.heap.size w w' := by
  unfold strings_IndexByte.f at h
  obtain rfl := Option.some.inj h
  exact (Go.Proofs.Tryd.strings_IndexByte a0 a1 w).mono (fun e w' h => ⟨h.1, by rw [h.2]; exact Below.refl _ _⟩)
def strings_Trim.f (a0 a1 : ByteArray) : Option ByteArray := if a0.size ≤ 9223372036854775807 ∧ a1.size ≤ 1000 ∧ a1.data.toList.all (fun b => decide (b.toNat < 128)) = true then some (⟨(Lib.trimS a0.data.toList a1.data.toList).toArray⟩ : ByteArray) else none
theorem strings_Trim.calls (a0 a1 : ByteArray) (r : ByteArray) (w : World) (h : strings_Trim.f a0 a1 = some r) :
    Calls Tryd.prog 38 #[.string a0, .string a1] w fun e w' => e = .returned (.string r) ∧ Below w.heap.size w w' := by
  unfold strings_Trim.f at h
  split at h
  · rename_i c
    obtain rfl := Option.some.inj h
    exact Go.Proofs.Tryd.strings_Trim a0 a1 w c.1 (by have := c.2.1; omega) (fun j b hb => of_decide_eq_true (List.all_eq_true.1 c.2.2 b (List.mem_of_getElem? hb)))
  · cases h
mutual
def sha_Parse.j0 : Nat → ByteArray → Bool → List Int → Option (List Int × Int)
 | 0, _, _, _ => none
 | k + 1, x0, x12, x173000 => if x12 = true then (some (x173000, 2)) else (sha_Parse.l0 k x0 0 x173000)
def sha_Parse.l0 : Nat → ByteArray → Int → List Int → Option (List Int × Int)
 | 0, _, _, _ => none
 | k + 1, x0, x14, x173000 => if x14 < 32 then (if 0 ≤ (wrap64 (2 * x14)) then (if (wrap64 (2 * x14)) < (x0.size : Int) then ((strings_IndexByte.f (⟨#[48, 49, 50, 51, 52, 53, 54, 55, 56, 57, 97, 98, 99, 100, 101, 102]⟩ : ByteArray) (bt x0 (wrap64 (2 * x14)))).bind fun t174 => (if 0 ≤ (wrap64 ((wrap64 (2 * x14)) + 1)) then (if (wrap64 ((wrap64 (2 * x14)) + 1)) < (x0.size : Int) then ((strings_IndexByte.f (⟨#[48, 49, 50, 51, 52, 53, 54, 55, 56, 57, 97, 98, 99, 100, 101, 102]⟩ : ByteArray) (bt x0 (wrap64 ((wrap64 (2 * x14)) + 1)))).bind fun t175 => (if 0 ≤ x14 then (sha_Parse.l0 k x0 (wrap64 (x14 + 1)) (Ar.set 32 x173000 x14 ((Go.bits .or .i64 (wrap64 (t174 * 16)) t175) % 256))) else (none))) else (none)) else (none))) else (none)) else (none)) else (some (x173000, 0))
end
def sha_Parse.f (k : Nat) (a0 : ByteArray) : Option (List Int × Int) := if (a0.size : Int) = 64 then ((strings_Trim.f a0 (⟨#[48, 49, 50, 51, 52, 53, 54, 55, 56, 57, 97, 98, 99, 100, 101, 102]⟩ : ByteArray)).bind fun t173 => (sha_Parse.j0 k a0 (t173.toList != ([] : List UInt8)) (List.replicate 32 0))) else (sha_Parse.j0 k a0 true (List.replicate 32 0))
theorem sha_Parse.mono_l : ∀ k, (∀ y0 y1 y2, LeO (sha_Parse.j0 k y0 y1 y2) (sha_Parse.j0 (k + 1) y0 y1 y2)) ∧ (∀ y0 y1 y2, LeO (sha_Parse.l0 k y0 y1 y2) (sha_Parse.l0 (k + 1) y0 y1 y2))
 | 0 => ⟨fun _ _ _ r h => by simp [sha_Parse.j0] at h, fun _ _ _ r h => by simp [sha_Parse.l0] at h⟩
 | k + 1 => by
  obtain ⟨ih0, ih1⟩ := sha_Parse.mono_l k
  refine ⟨?_, ?_⟩
  ·intro y0 y1 y2
   unfold sha_Parse.j0
   repeat' first
   | (with_reducible exact ih0 _ _ _)
   | (with_reducible exact ih1 _ _ _)
   | (with_reducible exact LeO.refl _)
   | (with_reducible exact LeO.none _)
   | (with_reducible refine LeO.ite ?_ ?_)
   | (with_reducible refine LeO.bind ?_ (fun _ => ?_))
   | exact ih0 _ _ _
   | exact ih1 _ _ _
   | exact LeO.none _
   | refine LeO.ite ?_ ?_
   | refine LeO.bind ?_ (fun _ => ?_)
  ·intro y0 y1 y2
   unfold sha_Parse.l0
   repeat' first
   | (with_reducible exact ih0 _ _ _)
   | (with_reducible exact ih1 _ _ _)
   | (with_reducible exact LeO.refl _)
   | (with_reducible exact LeO.none _)
   | (with_reducible refine LeO.ite ?_ ?_)
   | (with_reducible refine LeO.bind ?_ (fun _ => ?_))
   | exact ih0 _ _ _
   | exact ih1 _ _ _
   | exact LeO.none _
   | refine LeO.ite ?_ ?_
   | refine LeO.bind ?_ (fun _ => ?_)
theorem sha_Parse.mono : ∀ a0 k, LeO (sha_Parse.f k a0) (sha_Parse.f (k + 1) a0) := by
 intro a0 k
 obtain ⟨ih0, ih1⟩ := sha_Parse.mono_l k
 unfold sha_Parse.f
 repeat' first
   | (with_reducible exact ih0 _ _ _)
   | (with_reducible exact ih1 _ _ _)
   | (with_reducible exact LeO.refl _)
   | (with_reducible exact LeO.none _)
   | (with_reducible refine LeO.ite ?_ ?_)
   | (with_reducible refine LeO.bind ?_ (fun _ => ?_))
   | exact ih0 _ _ _
   | exact ih1 _ _ _
   | exact LeO.none _
   | refine LeO.ite ?_ ?_
   | refine LeO.bind ?_ (fun _ => ?_)
def sha_Parse.T6 : Bool × List (List Nat × List Nat) := (true, [([], []), ([], []), ([], []), ([2], [2]), ([1, 3], [1, 3]), ([4], [4]), ([5], [5]), ([], []), ([], []), ([8], [8]), ([9], [9]), ([7, 10], [7, 10]), ([11, 5], [11]), ([6, 12], [6, 12]), ([13], [13]), ([0, 0, 1, 2, 3, 4, 5, 6, 7, 8, 9, 10, 11, 12, 13, 14], [0]), ([15, 14, 12, 0, 1, 2, 3, 4, 5, 6, 7, 8, 9, 10, 11, 12, 13, 14], [14, 15])])
def sha_Parse.B6 : List Nat := [0, 0, 0, 4, 14, 30, 62, 0, 0, 256, 768, 1920, 4030, 8190, 16382, 32767, 65535]
theorem sha_Parse.tab6 : rtab .any (opsOf Tryd.f22 6) = sha_Parse.T6 := by kernel_rfl
theorem sha_Parse.bits6 : waitsOk sha_Parse.T6.2 sha_Parse.B6 = true := by kernel_rfl
set_option maxHeartbeats 8000000 in
set_option maxRecDepth 100000 in
theorem sha_Parse.calls (k : Nat) (a0 : ByteArray) (r1 : List Int) (r2 : Int) (w : World) (h : sha_Parse.f k a0 = some (r1, r2)) :
  Calls Tryd.prog 22 #[.string a0] w fun e w' => e = .returned (.tuple #[.agg (Ar.cells .u8 32 r1), .int .i64 r2]) ∧ Below w.heap.size w w' := by
 have HB := Aside0.mk (Below.refl w.heap.size w)
 have H : (if (a0.size : Int) = 64 then ((strings_Trim.f a0 (⟨#[48, 49, 50, 51, 52, 53, 54, 55, 56, 57, 97, 98, 99, 100, 101, 102]⟩ : ByteArray)).bind fun t173 => (sha_Parse.j0 k a0 (t173.toList != ([] : List UInt8)) (List.replicate 32 0))) else (sha_Parse.j0 k a0 true (List.replicate 32 0))) = some (r1, r2) := h
 clear h
 have HC2 := Aside0.mk H
 clear H
 go_enter Tryd.func22, Tryd.ntmps22
 go_upto_region 1 with (first | ((with_reducible refine gate_dst (N := 2) rfl ?_); (try (refine gate_guard (by rfl) ?_; dsimp only)); refine qE (N := 2) (cs := (Ar.cells .u8 32 (List.replicate 32 0))) (t := 26) ?_; intro gb172 hg w3 hbox hb; have BK172 := Aside0.mk (hbox); have GW172 := Aside0.mk ((qe HB hg : w.heap.size ≤ gb172)); have GE172 := Aside0.mk ((qe HB hg : w.heap.size ≤ gb172)); replace HB := Aside0.mk (below_step (qs HB) hb); clear hb hbox hg))
 (try simp only [Act.put, zA_, zB_, zC_])
 go_cut [12] (fun v12 wc => ∃ (kq : Nat) (x12_1 : Bool), v12 = .bool x12_1 ∧ Aside0 (sha_Parse.j0 kq a0 x12_1 (List.replicate 32 0) = some (r1, r2)) ∧ Aside0 (kq ≤ k) ∧ Aside0 (wc.heap[gb172]? = some (.cells (Ar.cells .u8 32 (List.replicate 32 0)) 26 (0, 0))) ∧ Aside0 (Below w.heap.size w wc))
 case first =>
  have H := HC2.out
  clear HC2
  by_cases c4 : (a0.size : Int) = 64
  ·rw [if_pos c4] at H
   have c4b0 : ((a0.size : Int) == 64) = true := beq_iff_eq.mpr c4
   have c4b1 : ((a0.size : Int) != 64) = false := bne_eq_false_iff_eq.mpr c4
   clear c4
   (first | rw [c4b0] | (simp only [i64_w, i32_w]; rw [c4b0]) | skip)
   replace H := Option.bind_eq_some_iff.mp H
   obtain ⟨t173, A50, H⟩ := H
   replace H : (sha_Parse.j0 k a0 (t173.toList != ([] : List UInt8)) (List.replicate 32 0)) = some (r1, r2) := H
   have A5 := Aside0.mk A50
   clear A50
   have H' := Aside0.mk H
   clear H
   go_wp2_with (first | (go_at_call 38; (with_reducible refine (strings_Trim.calls a0 (⟨#[48, 49, 50, 51, 52, 53, 54, 55, 56, 57, 97, 98, 99, 100, 101, 102]⟩ : ByteArray) t173 _ A5.out).mono ?_); rintro e w6 ⟨rfl, hb⟩; replace BK172 := Aside0.mk (qB BK172 hb); replace HB := Aside0.mk (below_step (qs HB) hb); (try clear hb); (try clear hb2); (try clear hk); (try clear hi)))
   go_meet
   case rel => exact ⟨_, ((t173.toList != ([] : List UInt8))), (by first | rfl | (simp; done) | (simp [*]; done) | (generalize t173.toList = q_; cases q_ <;> rfl) | (simp; generalize t173.toList = q_; cases q_ <;> rfl)), H', ⟨by first | omega | exact Nat.le_refl _⟩, ⟨by (with_reducible repeat (first | refine blk_drewN ?_ _ | refine blk_drew ?_ | refine blk_alloc ?_ _)); exact BK172.out⟩, ⟨by repeat (first | (with_reducible first | exact HB.out | apply below_alloc | apply pw_below_drewN | apply below_drew1 | refine below_set ?_ GE172.out) | exact HB.out)⟩⟩
  ·rw [if_neg c4] at H
   have c4b0 : ((a0.size : Int) == 64) = false := beq_eq_false_iff_ne.mpr c4
   have c4b1 : ((a0.size : Int) != 64) = true := bne_iff_ne.mpr c4
   (first | rw [c4b0] | (simp only [i64_w, i32_w]; rw [c4b0]) | skip)
   have H' := Aside0.mk H
   clear H
   go_wp2
   go_meet
   case rel => exact ⟨_, (true), (by first | rfl | (simp; done) | (simp [*]; done)), H', ⟨by first | omega | exact Nat.le_refl _⟩, ⟨by (with_reducible repeat (first | refine blk_drewN ?_ _ | refine blk_drew ?_ | refine blk_alloc ?_ _)); exact BK172.out⟩, ⟨by repeat (first | (with_reducible first | exact HB.out | apply below_alloc | apply pw_below_drewN | apply below_drew1 | refine below_set ?_ GE172.out) | exact HB.out)⟩⟩
 case rest =>
  clear HC2
  try clear c2
  try clear p2
  try clear c4
  try clear c4b0
  try clear c4b1
  obtain ⟨kq, x12_1, rfl, HA, HJ1, BK172, HB⟩ := hcut
  cases kq with
  | zero => exact absurd HA.out (by simp [sha_Parse.j0])
  | succ kj1 =>
   have H := HA.out
   clear HA
   simp only [sha_Parse.j0] at H
   by_cases c7 : x12_1 = true
   ·subst c7
    have H1 : (some ((List.replicate 32 0), 2)) = some (r1, r2) := by rw [if_pos rfl] at H; exact H
    clear H
    have H := H1
    clear H1
    simp only [Option.some.injEq, Prod.mk.injEq] at H
    obtain ⟨rfl, rfl⟩ := H
    go_wp2_with (first | ((with_reducible refine gate_dst (N := 13) rfl ?_); (try (refine gate_guard (by rfl) ?_; dsimp only)); refine Ar.load_event rfl (D := 13) rfl (T := 26) rfl Tryd.underlying26 (by kernel_rfl) (g := gb172) rfl (qb BK172) ?_) | ((with_reducible refine gate_store (t := 26) (p := 2) rfl ?_); refine Ar.store_all_event rfl rfl rfl Tryd.underlying26 (by kernel_rfl) (g := gb172) rfl (z := (List.replicate 32 0)) qg (qb BK172) ?_; intro w8 hbk_ hg; replace BK172 := Aside0.mk (hbk_); replace HB := Aside0.mk (Below.grown (qs HB) hg ((below_size (qs HB))) (fun _ e_ => by cases e_; exact GE172.out)); clear hbk_ hg))
    refine bodyPost_ret (results_ct rfl _ _ gb172 26 (Ar.cells .u8 32 (List.replicate 32 0)) (0, 0) _ rfl (qb BK172) Tryd.underlying26 rfl qZ) rfl ?_
    exact ⟨by first | rfl | (simp [errW_none, errW_some] <;> rfl) | (simp [*, errW_none, errW_some] <;> rfl), by repeat (first | (with_reducible first | exact HB.out | apply below_alloc | apply pw_below_drewN | apply below_drew1 | refine below_set ?_ GE172.out) | exact HB.out)⟩
   ·replace c7 := Bool.eq_false_iff.mpr c7
    subst c7
    have H1 : (sha_Parse.l0 kj1 a0 0 (List.replicate 32 0)) = some (r1, r2) := by rw [if_neg (show ¬ (false = true) by decide)] at H; exact H
    clear H
    have H := H1
    clear H1
    have H' := Aside0.mk H
    clear H
    go_wp2
    go_loopg [14] kj1 (fun kq v14 w' => ∃ (x14_2 : Int) (x173000_2 : List Int), v14 = .int .i64 x14_2 ∧ Aside0 (sha_Parse.l0 kq a0 x14_2 x173000_2 = some (r1, r2)) ∧ Aside0 (kq ≤ kj1) ∧ Aside0 (w'.heap[gb172]? = some (.cells (Ar.cells .u8 32 x173000_2) 26 (0, 0))) ∧ Aside0 (Below w.heap.size w w'))
    case atStart => exact ⟨(0), ((List.replicate 32 0)), (by first | rfl | (simp; done) | (simp [*]; done)), H', ⟨Nat.le_refl _⟩, ⟨by (with_reducible repeat (first | refine blk_drewN ?_ _ | refine blk_drew ?_ | refine blk_alloc ?_ _)); exact BK172.out⟩, ⟨by repeat (first | (with_reducible first | exact HB.out | apply below_alloc | apply pw_below_drewN | apply below_drew1 | refine below_set ?_ GE172.out) | exact HB.out)⟩⟩
    case round =>
     clear H'
     try clear c2
     try clear p2
     try clear c4
     try clear c4b0
     try clear c4b1
     try clear c7
     try clear p2
     obtain ⟨x14_2, x173000_2, rfl, HA, HK2, BK172, HB⟩ := hrel
     cases gk with
     | zero => exact absurd HA.out (by simp [sha_Parse.l0])
     | succ k2 =>
      have H := HA.out
      clear HA
      simp only [sha_Parse.l0] at H
      by_cases c9 : x14_2 < 32
      ·rw [if_pos c9] at H
       have c9b0 : decide (x14_2 < 32) = true := decide_eq_true c9
       clear c9
       obtain ⟨ji10, hji10⟩ : ∃ j_ : Int, (wrap64 (2 * x14_2)) = j_ := ⟨_, rfl⟩
       replace H : (if 0 ≤ (ji10) then (if (ji10) < (a0.size : Int) then ((strings_IndexByte.f (⟨#[48, 49, 50, 51, 52, 53, 54, 55, 56, 57, 97, 98, 99, 100, 101, 102]⟩ : ByteArray) (bt a0 (ji10))).bind fun t174 => (if 0 ≤ (wrap64 ((ji10) + 1)) then (if (wrap64 ((ji10) + 1)) < (a0.size : Int) then ((strings_IndexByte.f (⟨#[48, 49, 50, 51, 52, 53, 54, 55, 56, 57, 97, 98, 99, 100, 101, 102]⟩ : ByteArray) (bt a0 (wrap64 ((ji10) + 1)))).bind fun t175 => (if 0 ≤ x14_2 then (sha_Parse.l0 k2 a0 (wrap64 (x14_2 + 1)) (Ar.set 32 x173000_2 x14_2 ((Go.bits .or .i64 (wrap64 (t174 * 16)) t175) % 256))) else (none))) else (none)) else (none))) else (none)) else (none)) = some (r1, r2) := by first | (rw [hji10] at H; exact H) | (simp only [hji10] at H ⊢; exact H)
       have hji10w : (IntKind.i64.wrap (2 * x14_2)) = ji10 := (i64_w _).trans hji10
       by_cases c11 : 0 ≤ (ji10)
       ·rw [if_pos c11] at H
        have c11b0 : decide (0 ≤ (ji10)) = true := decide_eq_true c11
        clear c11
        by_cases c12 : (ji10) < (a0.size : Int)
        ·rw [if_pos c12] at H
         have c12b0 : decide ((ji10) < (a0.size : Int)) = true := decide_eq_true c12
         clear c12
         replace H := Option.bind_eq_some_iff.mp H
         obtain ⟨t174, A140, H⟩ := H
         replace H : (if 0 ≤ (wrap64 ((ji10) + 1)) then (if (wrap64 ((ji10) + 1)) < (a0.size : Int) then ((strings_IndexByte.f (⟨#[48, 49, 50, 51, 52, 53, 54, 55, 56, 57, 97, 98, 99, 100, 101, 102]⟩ : ByteArray) (bt a0 (wrap64 ((ji10) + 1)))).bind fun t175 => (if 0 ≤ x14_2 then (sha_Parse.l0 k2 a0 (wrap64 (x14_2 + 1)) (Ar.set 32 x173000_2 x14_2 ((Go.bits .or .i64 (wrap64 (t174 * 16)) t175) % 256))) else (none))) else (none)) else (none)) = some (r1, r2) := H
         have A14 := Aside0.mk A140
         clear A140
         obtain ⟨ji15, hji15⟩ : ∃ j_ : Int, (wrap64 ((ji10) + 1)) = j_ := ⟨_, rfl⟩
         replace H : (if 0 ≤ (ji15) then (if (ji15) < (a0.size : Int) then ((strings_IndexByte.f (⟨#[48, 49, 50, 51, 52, 53, 54, 55, 56, 57, 97, 98, 99, 100, 101, 102]⟩ : ByteArray) (bt a0 (ji15))).bind fun t175 => (if 0 ≤ x14_2 then (sha_Parse.l0 k2 a0 (wrap64 (x14_2 + 1)) (Ar.set 32 x173000_2 x14_2 ((Go.bits .or .i64 (wrap64 (t174 * 16)) t175) % 256))) else (none))) else (none)) else (none)) = some (r1, r2) := by first | (rw [hji15] at H; exact H) | (simp only [hji15] at H ⊢; exact H)
         (try rw [hji15] at A14)
         have hji15w : (IntKind.i64.wrap ((ji10) + 1)) = ji15 := (i64_w _).trans hji15
         by_cases c16 : 0 ≤ (ji15)
         ·rw [if_pos c16] at H
          have c16b0 : decide (0 ≤ (ji15)) = true := decide_eq_true c16
          clear c16
          by_cases c17 : (ji15) < (a0.size : Int)
          ·rw [if_pos c17] at H
           have c17b0 : decide ((ji15) < (a0.size : Int)) = true := decide_eq_true c17
           clear c17
           replace H := Option.bind_eq_some_iff.mp H
           obtain ⟨t175, A190, H⟩ := H
           replace H : (if 0 ≤ x14_2 then (sha_Parse.l0 k2 a0 (wrap64 (x14_2 + 1)) (Ar.set 32 x173000_2 x14_2 ((Go.bits .or .i64 (wrap64 (t174 * 16)) t175) % 256))) else (none)) = some (r1, r2) := H
           have A19 := Aside0.mk A190
           clear A190
           by_cases c20 : 0 ≤ x14_2
           ·rw [if_pos c20] at H
            have c20b0 : decide (0 ≤ x14_2) = true := decide_eq_true c20
            clear c20
            obtain ⟨y176, hy176⟩ : ∃ y_ : List Int, y_ = (Ar.set 32 x173000_2 x14_2 ((Go.bits .or .i64 (wrap64 (t174 * 16)) t175) % 256)) := ⟨_, rfl⟩
            replace H : (sha_Parse.l0 k2 a0 (wrap64 (x14_2 + 1)) y176) = some (r1, r2) := by first | (rw [hy176]; with_reducible exact H) | (have H2_ := (Option.bind_some _ _).symm.trans H; rw [hy176]; with_reducible exact H2_) | (have H2_ := (Option.bind_some _ _).symm.trans H; with_reducible exact H2_) | with_reducible exact H | (rw [hy176]; exact H) | exact H
            have Ny176 := Aside0.mk hy176
            clear hy176
            have H' := Aside0.mk H
            clear H
            try go_wp2
            replace BK172 := Aside0.mk (blk_drew BK172.out)
            replace HB := Aside0.mk (below_drew1 HB.out)
            have p13 : 0 ≤ ((ji10) : Int) := of_decide_eq_true qa
            have q13 : (ji10) < (a0.size : Int) := of_decide_eq_true qa
            have hx13 := bt_at a0 (ji10)
            replace p13 := eq_true p13
            replace q13 := eq_true q13
            have p18 : 0 ≤ ((ji15) : Int) := of_decide_eq_true qa
            have q18 : (ji15) < (a0.size : Int) := of_decide_eq_true qa
            have hx18 := bt_at a0 (ji15)
            replace p18 := eq_true p18
            replace q18 := eq_true q18
            refine start_ (n := 17) (S := fun w' => True) (ds := []) #[false, false, false, false, false, false, false, false, false, false, false, false, false, false, false, false, false] (by kernel_rfl) rfl rfl trivial (fun hHeld => ?_); refine with_tabW sha_Parse.tab6 sha_Parse.bits6 (fun HT_ HW_ => ?_)
            generalize wr.drew = w21 at BK172 HB hHeld ⊢
            refine pure_ (i := 0) (N := some 17) (v := ?_) (a' := ?_) #[true, false, false, false, false, false, false, false, false, false, false, false, false, false, false, false, false] rfl rfl (any_of HT_.out (by kernel_rfl)) (fun _ _ _ h => h) (Or.inl ⟨by rfl, ?_⟩) ?_ ?_
            rotate_left
            ·intro w'
             go_simp
             with_reducible rfl
            rotate_left
            ·simp only [Act.put, zA_, zB_, zC_, i64_w, i32_w]
             rfl
            refine pure_ (i := 1) (N := some 18) (v := ?_) (a' := ?_) #[true, true, false, false, false, false, false, false, false, false, false, false, false, false, false, false, false] rfl rfl (any_of HT_.out (by kernel_rfl)) (fun _ _ _ h => h) (Or.inl ⟨by rfl, ?_⟩) ?_ ?_
            rotate_left
            ·intro w'
             go_simp
             with_reducible rfl
            rotate_left
            ·simp only [Act.put, zA_, zB_, zC_, i64_w, i32_w]
             rfl
            refine pure_ (i := 2) (N := some 19) (v := ?_) (a' := ?_) #[true, true, true, false, false, false, false, false, false, false, false, false, false, false, false, false, false] rfl rfl (any_of HT_.out (by kernel_rfl)) (fun _ _ _ h => h) (Or.inl ⟨by rfl, ?_⟩) ?_ ?_
            rotate_left
            ·intro w'
             go_simp
             with_reducible rfl
            rotate_left
            ·simp only [Act.put, zA_, zB_, zC_, i64_w, i32_w]
             rfl
            refine pure_ (i := 3) (N := some 20) (v := ?_) (a' := ?_) #[true, true, true, true, false, false, false, false, false, false, false, false, false, false, false, false, false] rfl rfl (any_of HT_.out (by kernel_rfl)) (fun _ _ _ h => h) (Or.inl ⟨by rfl, ?_⟩) ?_ ?_
            rotate_left
            ·intro w'
             go_simp
             with_reducible rfl
            rotate_left
            ·simp only [Act.put, zA_, zB_, zC_, i64_w, i32_w]
             rfl
            refine pure_ (i := 7) (N := some 24) (v := ?_) (a' := ?_) #[true, true, true, true, false, false, false, true, false, false, false, false, false, false, false, false, false] rfl rfl (any_of HT_.out (by kernel_rfl)) (fun _ _ _ h => h) (Or.inl ⟨by rfl, ?_⟩) ?_ ?_
            rotate_left
            ·intro w'
             go_simp
             with_reducible rfl
            rotate_left
            ·simp only [Act.put, zA_, zB_, zC_, i64_w, i32_w]
             rfl
            refine pure_ (i := 8) (N := some 25) (v := ?_) (a' := ?_) #[true, true, true, true, false, false, false, true, true, false, false, false, false, false, false, false, false] rfl rfl (any_of HT_.out (by kernel_rfl)) (fun _ _ _ h => h) (Or.inl ⟨by rfl, ?_⟩) ?_ ?_
            rotate_left
            ·intro w'
             go_simp
             with_reducible rfl
            rotate_left
            ·simp only [Act.put, zA_, zB_, zC_, i64_w, i32_w]
             rfl
            refine pure_ (i := 9) (N := some 26) (v := ?_) (a' := ?_) #[true, true, true, true, false, false, false, true, true, true, false, false, false, false, false, false, false] rfl rfl (any_of HT_.out (by kernel_rfl)) (fun _ _ _ h => h) (Or.inl ⟨by rfl, ?_⟩) ?_ ?_
            rotate_left
            ·intro w'
             go_simp
             with_reducible rfl
            rotate_left
            ·simp only [Act.put, zA_, zB_, zC_, i64_w, i32_w]
             rfl
            refine pure_ (i := 10) (N := some 27) (v := ?_) (a' := ?_) #[true, true, true, true, false, false, false, true, true, true, true, false, false, false, false, false, false] rfl rfl (any_of HT_.out (by kernel_rfl)) (fun _ _ _ h => h) (Or.inl ⟨by rfl, ?_⟩) ?_ ?_
            rotate_left
            ·intro w'
             go_simp
             with_reducible rfl
            rotate_left
            ·simp only [Act.put, zA_, zB_, zC_, i64_w, i32_w]
             rfl
            refine take_ (i := 4) (N := some 21) (v := ?_) (a' := ?_) #[true, true, true, true, true, false, false, true, true, true, true, false, false, false, false, false, false] rfl rfl (take_ofW HT_.out HW_.out (by kernel_rfl)) (fun _ _ _ h => h) (Or.inl ⟨by rfl, ?_⟩) hHeld ?_ ?_
            rotate_left
            ·intro w' _
             go_simp
             with_reducible rfl
            rotate_left
            ·simp only [Act.put, zA_, zB_, zC_, i64_w, i32_w]
             rfl
            refine take_ (i := 11) (N := some 28) (v := ?_) (a' := ?_) #[true, true, true, true, true, false, false, true, true, true, true, true, false, false, false, false, false] rfl rfl (take_ofW HT_.out HW_.out (by kernel_rfl)) (fun _ _ _ h => h) (Or.inl ⟨by rfl, ?_⟩) hHeld ?_ ?_
            rotate_left
            ·intro w' _
             go_simp
             with_reducible rfl
            rotate_left
            ·simp only [Act.put, zA_, zB_, zC_, i64_w, i32_w]
             rfl
            refine one_ (i := 5) (N := some 22) #[true, true, true, true, true, true, false, true, true, true, true, true, false, false, false, false, false] rfl rfl (one_of HT_.out (by kernel_rfl)) (by decide) (fun K hK => ?_)
            refine goes_ Tryd.func39 (by kernel_rfl) rfl #[.string (⟨#[48, 49, 50, 51, 52, 53, 54, 55, 56, 57, 97, 98, 99, 100, 101, 102]⟩ : ByteArray), .int .u8 (bt a0 (ji10))] (by rfl) rfl rfl (by (try simp only [List.map_toArray, List.map_cons, List.map_nil]); first | done | (simp only [hji10]; rfl) | rfl | (simp only [List.length_drop, List.length_take]; rfl)) ?_
            with_reducible refine (strings_IndexByte.calls (⟨#[48, 49, 50, 51, 52, 53, 54, 55, 56, 57, 97, 98, 99, 100, 101, 102]⟩ : ByteArray) (bt a0 (ji10)) t174 _ A14.out).mono ?_
            rintro e w22 ⟨rfl, hb⟩
            refine ⟨_, rfl, ?_⟩
            replace BK172 := Aside0.mk (qB BK172 hb)
            replace HB := Aside0.mk (below_step (qs HB) hb)
            (try clear hb)
            (try clear hb2)
            (try clear hk)
            (try clear hi)
            refine hK.out _ _ trivial (fun hHeld => ?_)
            clear hK K
            refine norm_ (a' := ?_) ?_ ?_
            rotate_left
            ·show Act.put _ (some 22) _ = _
             simp only [Act.put, zA_, zB_, zC_, i64_w, i32_w]
             rfl
            refine pure_ (i := 6) (N := some 23) (v := ?_) (a' := ?_) #[true, true, true, true, true, true, true, true, true, true, true, true, false, false, false, false, false] rfl rfl (any_of HT_.out (by kernel_rfl)) (fun _ _ _ h => h) (Or.inl ⟨by rfl, ?_⟩) ?_ ?_
            rotate_left
            ·intro w'
             go_simp
             with_reducible rfl
            rotate_left
            ·simp only [Act.put, zA_, zB_, zC_, i64_w, i32_w]
             rfl
            refine one_ (i := 12) (N := some 29) #[true, true, true, true, true, true, true, true, true, true, true, true, true, false, false, false, false] rfl rfl (one_of HT_.out (by kernel_rfl)) (by decide) (fun K hK => ?_)
            refine goes_ Tryd.func39 (by kernel_rfl) rfl #[.string (⟨#[48, 49, 50, 51, 52, 53, 54, 55, 56, 57, 97, 98, 99, 100, 101, 102]⟩ : ByteArray), .int .u8 (bt a0 (ji15))] (by rfl) rfl rfl (by (try simp only [List.map_toArray, List.map_cons, List.map_nil]); first | done | (simp only [hji15]; rfl) | rfl | (simp only [List.length_drop, List.length_take]; rfl)) ?_
            with_reducible refine (strings_IndexByte.calls (⟨#[48, 49, 50, 51, 52, 53, 54, 55, 56, 57, 97, 98, 99, 100, 101, 102]⟩ : ByteArray) (bt a0 (ji15)) t175 _ A19.out).mono ?_
            rintro e w23 ⟨rfl, hb⟩
            refine ⟨_, rfl, ?_⟩
            replace BK172 := Aside0.mk (qB BK172 hb)
            replace HB := Aside0.mk (below_step (qs HB) hb)
            (try clear hb)
            (try clear hb2)
            (try clear hk)
            (try clear hi)
            have p24 : (0 ≤ (x14_2 : Int)) = True := eq_true qo
            have q24 : ((x14_2 : Int) < 32) = True := eq_true qo
            refine hK.out _ _ trivial (fun hHeld => ?_)
            clear hK K
            refine norm_ (a' := ?_) ?_ ?_
            rotate_left
            ·show Act.put _ (some 29) _ = _
             simp only [Act.put, zA_, zB_, zC_, i64_w, i32_w]
             rfl
            refine pure_ (i := 13) (N := some 30) (v := ?_) (a' := ?_) #[true, true, true, true, true, true, true, true, true, true, true, true, true, true, false, false, false] rfl rfl (any_of HT_.out (by kernel_rfl)) (fun _ _ _ h => h) (Or.inl ⟨by rfl, ?_⟩) ?_ ?_
            rotate_left
            ·intro w'
             go_simp
             with_reducible rfl
            rotate_left
            ·simp only [Act.put, zA_, zB_, zC_, i64_w, i32_w]
             rfl
            refine pure_ (i := 14) (N := some 31) (v := ?_) (a' := ?_) #[true, true, true, true, true, true, true, true, true, true, true, true, true, true, true, false, false] rfl rfl (any_of HT_.out (by kernel_rfl)) (fun _ _ _ h => h) (Or.inl ⟨by rfl, ?_⟩) ?_ ?_
            rotate_left
            ·intro w'
             go_simp
             with_reducible rfl
            rotate_left
            ·simp only [Act.put, zA_, zB_, zC_, i64_w, i32_w]
             rfl
            refine pure_ (i := 15) (N := some 32) (v := ?_) (a' := ?_) #[true, true, true, true, true, true, true, true, true, true, true, true, true, true, true, true, false] rfl rfl (any_of HT_.out (by kernel_rfl)) (fun _ _ _ h => h) (Or.inl ⟨by rfl, ?_⟩) ?_ ?_
            rotate_left
            ·intro w'
             go_simp
             with_reducible rfl
            rotate_left
            ·simp only [Act.put, zA_, zB_, zC_, i64_w, i32_w]
             rfl
            refine one_ (i := 16) (N := none) #[true, true, true, true, true, true, true, true, true, true, true, true, true, true, true, true, true] rfl rfl (one_of HT_.out (by kernel_rfl)) (by decide) (fun K hK => ?_)
            refine Ar.put_step (by rfl) rfl rfl (by kernel_rfl) (g := gb172) (j := x14_2) rfl (z := ((Go.bits .or .i64 (wrap64 (t174 * 16)) t175) % 256)) qg (qb BK172) qo qo ?_; intro w25 hbk_ hg
            rw [← Ny176.out] at hbk_
            replace BK172 := Aside0.mk (hbk_)
            replace HB := Aside0.mk (Below.grown (qs HB) hg ((below_size (qs HB))) (fun _ e_ => by cases e_; exact GE172.out))
            clear hbk_ hg
            refine hK.out _ _ trivial (fun hHeld => ?_)
            clear hK K
            refine done_ (done_of HT_.out (by kernel_rfl)) ?_
            try go_wp2
            go_roundg k2
            case measure => have := HJ1.out; have := HK2.out; omega
            case rel => exact ⟨(wrap64 (x14_2 + 1)), (y176), (by first | rfl | (simp; done) | (simp [*]; done)), H', ⟨by have := HJ1.out; have := HK2.out; omega⟩, ⟨by (with_reducible repeat (first | refine blk_drewN ?_ _ | refine blk_drew ?_ | refine blk_alloc ?_ _)); exact BK172.out⟩, ⟨by repeat (first | (with_reducible first | exact HB.out | apply below_alloc | apply pw_below_drewN | apply below_drew1 | refine below_set ?_ GE172.out) | exact HB.out)⟩⟩
           ·rw [if_neg c20] at H
            exact absurd H (by simp)
          ·rw [if_neg c17] at H
           exact absurd H (by simp)
         ·rw [if_neg c16] at H
          exact absurd H (by simp)
        ·rw [if_neg c12] at H
         exact absurd H (by simp)
       ·rw [if_neg c11] at H
        exact absurd H (by simp)
      ·rw [if_neg c9] at H
       have c9b0 : decide (x14_2 < 32) = false := decide_eq_false c9
       clear c9
       simp only [Option.some.injEq, Prod.mk.injEq] at H
       obtain ⟨rfl, rfl⟩ := H
       go_wp2_with (first | ((with_reducible refine gate_dst (N := 34) rfl ?_); (try (refine gate_guard (by rfl) ?_; dsimp only)); refine Ar.load_event rfl (D := 34) rfl (T := 26) rfl Tryd.underlying26 (by kernel_rfl) (g := gb172) rfl (qb BK172) ?_) | ((with_reducible refine gate_store (t := 26) (p := 2) rfl ?_); refine Ar.store_all_event rfl rfl rfl Tryd.underlying26 (by kernel_rfl) (g := gb172) rfl (z := x173000_2) qg (qb BK172) ?_; intro w26 hbk_ hg; replace BK172 := Aside0.mk (hbk_); replace HB := Aside0.mk (Below.grown (qs HB) hg ((below_size (qs HB))) (fun _ e_ => by cases e_; exact GE172.out)); clear hbk_ hg))
       refine bodyPost_ret (results_ct rfl _ _ gb172 26 (Ar.cells .u8 32 x173000_2) (0, 0) _ rfl (qb BK172) Tryd.underlying26 rfl qZ) rfl ?_
       exact ⟨by first | rfl | (simp [errW_none, errW_some] <;> rfl) | (simp [*, errW_none, errW_some] <;> rfl), by repeat (first | (with_reducible first | exact HB.out | apply below_alloc | apply pw_below_drewN | apply below_drew1 | refine below_set ?_ GE172.out) | exact HB.out)⟩
theorem sb_info : ∃ j : TypeInfo, Tryd.prog.info? 73 = some j ∧ j.size = 2 := by
  obtain ⟨j, hj, hjs⟩ := Option.map_eq_some_iff.1 (show (Tryd.prog.info? 73).map (·.size) = some 2 from by kernel_rfl)
  exact ⟨j, hj, hjs⟩
set_option maxHeartbeats 8000000 in
set_option maxRecDepth 100000 in
theorem sb_check.calls (g : Nat) (p : Option Addr) (v : Value) (w : World) (hp : p = none ∨ p = some ⟨g, 0, none⟩) (hb0 : w.heap[g]? = some (.cells #[.pointer p, v] 73 (0, 0))) :
    Calls Tryd.prog 60 #[.pointer (some ⟨g, 0, none⟩)] w fun e w' => e = .returned (.tuple #[]) ∧ w'.heap[g]? = some (.cells #[.pointer (some ⟨g, 0, none⟩), v] 73 (0, 0)) ∧ w.grownBy w' (some g) := by
  obtain ⟨j, hj, hjs⟩ := sb_info
  rcases hp with rfl | rfl
  · have hsh : w.shape? g = some (73, 2) := by simp [World.shape?, hb0]
    go_enter Tryd.func60, Tryd.ntmps60
    go_wp2_with (first | ((with_reducible refine gate_dst (N := 5) rfl ?_); refine Ar.cload_event rfl (T := 71) rfl Tryd.underlying71 rfl (A := ⟨g, 0, none⟩) rfl (v := .pointer none) (Ar.blk_at hb0 rfl) ?_) | ((with_reducible refine gate_dst (N := 9) rfl ?_); refine Ar.conv_event rfl rfl (u := .pointer (some ⟨g, 0, none⟩)) rfl (Lib.run_to_unsafe _ ⟨g, 0, none⟩ Tryd.underlying71 Tryd.underlying104 hj (by rw [hjs]; decide) hsh (show (0 : Nat) < 2 by decide)) ?_) | ((with_reducible refine gate_callee (f := 72) rfl ?_); refine Ar.extern_event rfl rfl (u := .pointer (some ⟨g, 0, none⟩)) rfl ((run_callFunc_extern Tryd.func72 (by kernel_rfl) (by kernel_rfl) (by kernel_rfl) (e := Extern.AbiNoEscape.same) (by kernel_rfl) _ _).trans rfl) ?_) | ((with_reducible refine gate_dst (N := 11) rfl ?_); refine Ar.conv_event rfl rfl (u := .pointer (some ⟨g, 0, none⟩)) rfl (Lib.run_from_unsafe _ ⟨g, 0, none⟩ Tryd.underlying104 Tryd.underlying71 hj hsh (by kernel_rfl)) ?_) | ((with_reducible refine gate_store (t := 71) (p := 13) rfl ?_); refine Ar.vstore_event rfl rfl rfl (by kernel_rfl) (g := g) (c := 0) rfl (u := .pointer (some ⟨g, 0, none⟩)) rfl rfl rfl hb0 (by simp) ?_; intro w1 hbk_ hg; replace hbk_ : w1.heap[g]? = some (.cells #[.pointer (some ⟨g, 0, none⟩), v] 73 (0, 0)) := hbk_))
    go_end0
    exact ⟨rfl, hbk_, hg⟩
  · go_enter Tryd.func60, Tryd.ntmps60
    go_wp2_with (first | ((with_reducible refine gate_dst (N := 5) rfl ?_); refine Ar.cload_event rfl (T := 71) rfl Tryd.underlying71 rfl (A := ⟨g, 0, none⟩) rfl (v := .pointer (some ⟨g, 0, none⟩)) (Ar.blk_at hb0 rfl) ?_) | ((with_reducible refine gate_dst (N := 17) rfl ?_); refine Ar.cload_event rfl (T := 71) rfl Tryd.underlying71 rfl (A := ⟨g, 0, none⟩) rfl (v := .pointer (some ⟨g, 0, none⟩)) (Ar.blk_at hb0 rfl) ?_) | ((with_reducible refine gate_dst (N := 19) rfl ?_); refine Ar.same_event rfl rfl (A := ⟨g, 0, none⟩) rfl rfl Tryd.underlying71 hj ?_))
    go_end0
    exact ⟨rfl, hb0, Ar.grown_refl _ _⟩
set_option maxHeartbeats 8000000 in
set_option maxRecDepth 100000 in
theorem sb_byte.calls (g : Nat) (p : Option Addr) (v : Value) (l : List Int) (c : Int) (w0 w : World) (hp : p = none ∨ p = some ⟨g, 0, none⟩) (hb0 : w.heap[g]? = some (.cells #[.pointer p, v] 73 (0, 0))) (ho0 : Kd.R (Kd.int .u8) 5 w w0.heap.size (fun _ => True) v l) (hB : Below w0.heap.size w0 w) (hG : w0.heap.size ≤ g) (hl : l.length < 1000000) :
    Calls Tryd.prog 41 #[.pointer (some ⟨g, 0, none⟩), .int .u8 c] w fun e w' => ∃ v1 : Value, e = .returned .nilIface ∧ w'.heap[g]? = some (.cells #[.pointer (some ⟨g, 0, none⟩), v1] 73 (0, 0)) ∧ Kd.R (Kd.int .u8) 5 w' w0.heap.size (fun _ => True) v1 (l ++ [c]) ∧ Below w0.heap.size w0 w' := by
  have BG := Aside0.mk hb0
  have HO := Aside0.mk ho0
  have HB := Aside0.mk hB
  have GEg := Aside0.mk hG
  clear hb0 ho0 hB hG
  go_enter Tryd.func41, Tryd.ntmps41
  go_wp2_with (first | ((with_reducible refine gate_callee (f := 60) rfl ?_); refine goesL_ (some 6) rfl rfl Tryd.func60 (by kernel_rfl) rfl #[.pointer (some ⟨g, 0, none⟩)] rfl (by (try simp only [List.map_toArray, List.map_cons, List.map_nil]); first | done | rfl) ?_; refine (sb_check.calls g p v _ hp BG.out).mono ?_; rintro e w1 ⟨rfl, hbk_, hg⟩; refine ⟨_, rfl, ?_⟩; replace HO := Aside0.mk (Kd.R_mono (Kd.R_grown (Kd.R_types HO.out BG.out (by decide)) hg (fun k_ hk_ e_ => hk_.2 (Option.some.inj e_))) (fun _ _ => trivial)); replace HB := Aside0.mk (Below.grown HB.out hg (below_size HB.out) (fun _ e_ => by cases e_; exact GEg.out)); replace BG := Aside0.mk (hbk_); clear hbk_ hg; obtain ⟨A1, c1, e1_⟩ := Kd.R_slice HO.out; subst e1_) | ((with_reducible refine gate_dst (N := 11) rfl ?_); refine Ar.cload_event rfl (T := 29) rfl Tryd.underlying29 rfl (A := ⟨g, 1, none⟩) rfl (v := .slice A1 l.length c1) (Ar.blk_at BG.out rfl) ?_) | ((with_reducible refine gate_builtin (b := .append) (xs := #[.tmp 11, .tmp 13]) rfl ?_); at_builtin; refine Kd.R_append (Kd.int .u8) (w0 := w0) w0.heap.size rfl (.tmp 11) (.tmp 13) 29 5 (.int .u8 0) 1 rfl Tryd.underlying29 info5 rfl (by decide) (by omega) (.slice A1 l.length c1) l c [.int .u8 c] (fun _ => True) (fun _ => False) rfl rfl rfl (fun _ hk => hk.elim) (fun _ _ => trivial) HO.out HB.out (below_size HB.out) (by have := hl; omega) ?_; intro v2 w2 ho hb hg hat; replace BG := Aside0.mk (blk_grown BG.out hg (Kd.R_ne HO.out BG.out (by decide))); replace HO := Aside0.mk (ho); replace HB := Aside0.mk (hb); clear ho hb hg hat; obtain ⟨A2, c2, e2_⟩ := Kd.R_slice HO.out; subst e2_; simp only [List.length_append, List.length_cons, List.length_nil, Nat.zero_add] at HO) | ((with_reducible refine gate_store (t := 29) (p := 16) rfl ?_); refine Ar.vstore_event rfl rfl rfl (by kernel_rfl) (g := g) (c := 1) rfl (u := .slice A2 (l.length + 1) c2) rfl rfl rfl BG.out (by simp) ?_; intro w3 hbk_ hg; replace HO := Aside0.mk (Kd.R_mono (Kd.R_grown (Kd.R_types HO.out BG.out (by decide)) hg (fun k_ hk_ e_ => hk_.2 (Option.some.inj e_))) (fun _ _ => trivial)); replace HB := Aside0.mk (Below.grown HB.out hg (below_size HB.out) (fun _ e_ => by cases e_; exact GEg.out)); replace BG := Aside0.mk (hbk_); clear hbk_ hg))
  go_ret
  first | exact ⟨_, rfl, BG.out, HO.out, HB.out⟩ | exact ⟨rfl, _, BG.out, HO.out, HB.out⟩
def sha_Text.l0 : Nat → List Int → List UInt8 → Int → Option ByteArray
  | 0, _, _, _ => none
  | k + 1, h, acc, i => if i < 32 then (if 0 ≤ i then (if (0 ≤ Ar.get 32 h i ∧ Ar.get 32 h i < 256) ∧ acc.length < 1000 then sha_Text.l0 k h (acc ++ [(bt (⟨#[48, 49, 50, 51, 52, 53, 54, 55, 56, 57, 97, 98, 99, 100, 101, 102]⟩ : ByteArray) (Ar.get 32 h i / 16)).toNat.toUInt8, (bt (⟨#[48, 49, 50, 51, 52, 53, 54, 55, 56, 57, 97, 98, 99, 100, 101, 102]⟩ : ByteArray) (Ar.get 32 h i % 16)).toNat.toUInt8]) (i + 1) else none) else none) else some (⟨acc.toArray⟩ : ByteArray)
def sha_Text.f (k : Nat) (a0 : List Int) : Option ByteArray := sha_Text.l0 k a0 [] 0
theorem sha_Text.mono_l : ∀ k h acc i, LeO (sha_Text.l0 k h acc i) (sha_Text.l0 (k + 1) h acc i)
  | 0, _, _, _ => fun r h => by simp [sha_Text.l0] at h
  | k + 1, _, _, _ => by
    unfold sha_Text.l0
    exact LeO.ite (LeO.ite (LeO.ite (sha_Text.mono_l k _ _ _) (LeO.none _)) (LeO.none _)) (LeO.refl _)
theorem sha_Text.mono : ∀ a0 k, LeO (sha_Text.f k a0) (sha_Text.f (k + 1) a0) := fun a0 k => sha_Text.mono_l k a0 [] 0
theorem sha_Text.b8 {d : Int} (h : 0 ≤ d ∧ d < 256) : (d.toNat.toUInt8.toNat : Int) = d := by
  have : d.toNat < 256 := by omega
  simp [Nat.toUInt8, UInt8.toNat_ofNat, Nat.mod_eq_of_lt this]
  omega
theorem sha_Text.isB {g B : Nat} {p : Option Addr} {v : Value} {acc : List UInt8} {w : World} (hp : p = none ∨ p = some ⟨g, 0, none⟩) (hb : w.heap[g]? = some (.cells #[.pointer p, v] 73 (0, 0))) (ho : Kd.R (Kd.int .u8) 5 w B (fun _ => True) v (acc.map (fun b => (b.toNat : Int)))) (hg : B ≤ g) : Lib.IsBuilder 73 5 B g (Lib.byteCells acc) w := by
  have hown := Kd.own_of_R ho
  have hne : v.ownBlock ≠ some g := fun e => (Kd.R_ne ho hb (by decide)) e.symm
  have hA : ∀ q : Value, q = .pointer p → Lib.BuilderAt 73 5 B g q (Lib.byteCells acc) w := fun q hq => by
    subst hq
    refine ⟨hg, v, hb, ?_, hne⟩
    simpa [Lib.byteCells, encs, Function.comp_def] using hown
  rcases hp with rfl | rfl
  · exact .inl (hA _ rfl)
  · exact .inr (hA _ rfl)
theorem sha_Text.bt_in (s : ByteArray) (j : Int) : 0 ≤ bt s j ∧ bt s j < 256 := by
  have := bt_range s j
  omega
theorem sha_Text.snoc (acc : List UInt8) {d : Int} (h : 0 ≤ d ∧ d < 256) : acc.map (fun b => (b.toNat : Int)) ++ [d] = (acc ++ [d.toNat.toUInt8]).map (fun b => (b.toNat : Int)) := by
  rw [List.map_append, List.map_cons, List.map_nil, sha_Text.b8 h]
set_option maxHeartbeats 8000000 in
set_option maxRecDepth 100000 in
theorem sha_Text.calls (k : Nat) (a0 : List Int) (r : ByteArray) (w : World) (h : sha_Text.f k a0 = some r) :
    Calls Tryd.prog 24 #[.agg (Ar.cells .u8 32 a0)] w fun e w' => e = .returned (.string r) ∧ Below w.heap.size w w' := by
  have HB := Aside0.mk (Below.refl w.heap.size w)
  have HL := Aside0.mk h
  clear h
  go_enter Tryd.func24, Tryd.ntmps24
  go_wp2_with (first | ((with_reducible refine gate_dst (N := 1) rfl ?_); refine box_event ?hg (N := 1) ?hd (cs := (Ar.cells .u8 32 a0)) (t := 26) ?hr ?_; (case hd => rfl); (case hg => rfl); (case hr => first | exact Ar.box_run rfl rfl | exact Ar.gbox_run rfl rfl); intro g1 hg w1 hbox hb; replace HB := Aside0.mk (below_step HB.out hb); have B1 := Aside0.mk (hbox); clear hb hg hbox) | ((with_reducible refine gate_dst (N := 3) rfl ?_); refine box_event ?hg (N := 3) ?hd (cs := #[.pointer none, .slice none 0 0]) (t := 73) ?hr ?_; (case hd => rfl); (case hg => rfl); (case hr => first | exact Ar.galloc_run rfl (by kernel_rfl) | (go_simp; done) | (go_simp; rfl)); intro gs hg w2 hbox hb; replace B1 := Aside0.mk (blk_below B1.out hb); have GEgs := Aside0.mk ((by rw [hg]; exact below_size HB.out : w.heap.size ≤ gs)); replace HB := Aside0.mk (below_step HB.out hb); have BS := Aside0.mk (hbox); clear hb hg hbox) | ((with_reducible refine gate_dst (N := 6) rfl ?_); refine Ar.load_event rfl (D := 6) rfl (T := 26) rfl Tryd.underlying26 (by kernel_rfl) (g := g1) rfl B1.out ?_))
  go_loopg [7] k (fun kq v7 w' => ∃ (i : Int) (acc : List UInt8) (p : Option Addr) (v : Value), v7 = .int .i64 i ∧ Aside0 (sha_Text.l0 kq a0 acc i = some r) ∧ Aside0 (kq ≤ k) ∧ Aside0 (p = none ∨ p = some ⟨gs, 0, none⟩) ∧ Aside0 (w'.heap[gs]? = some (.cells #[.pointer p, v] 73 (0, 0))) ∧ Aside0 (Kd.R (Kd.int .u8) 5 w' w.heap.size (fun _ => True) v (acc.map (fun b => (b.toNat : Int)))) ∧ Aside0 (Below w.heap.size w w'))
  case atStart => exact ⟨0, [], none, _, rfl, HL, ⟨Nat.le_refl _⟩, ⟨.inl rfl⟩, BS, ⟨Kd.R_nil _ _ _ _ _⟩, HB⟩
  case round =>
    clear HL BS HB
    obtain ⟨i, acc, p, v, rfl, HL, HK1, HP, BS, HO, HB⟩ := hrel
    cases gk with
    | zero => exact absurd HL.out (by simp [sha_Text.l0])
    | succ k1 =>
      have H := HL.out
      clear HL
      simp only [sha_Text.l0] at H
      by_cases c : i < 32
      · rw [if_pos c] at H
        have cb0 : decide (i < 32) = true := decide_eq_true c
        by_cases d : 0 ≤ i
        · rw [if_pos d] at H
          by_cases e : (0 ≤ Ar.get 32 a0 i ∧ Ar.get 32 a0 i < 256) ∧ acc.length < 1000
          · rw [if_pos e] at H
            obtain ⟨⟨e0, e1⟩, e2⟩ := e
            have H' := Aside0.mk H
            clear H
            obtain ⟨x, hx⟩ : ∃ x, x = Ar.get 32 a0 i := ⟨_, rfl⟩
            rw [← hx] at e0 e1 H'
            have HX := Aside0.mk hx
            clear hx
            have p1 := eq_true (show (0 : Int) ≤ x / 16 by omega)
            have q1 := eq_true (show x / 16 < ((⟨#[48, 49, 50, 51, 52, 53, 54, 55, 56, 57, 97, 98, 99, 100, 101, 102]⟩ : ByteArray).size : Int) from (by show x / 16 < (16 : Int); omega))
            have r1 := eq_true (show x / 16 < (16 : Int) by omega)
            have hx1 := bt_at (⟨#[48, 49, 50, 51, 52, 53, 54, 55, 56, 57, 97, 98, 99, 100, 101, 102]⟩ : ByteArray) (x / 16)
            have p2 := eq_true (show (0 : Int) ≤ x % 16 by omega)
            have q2 := eq_true (show x % 16 < ((⟨#[48, 49, 50, 51, 52, 53, 54, 55, 56, 57, 97, 98, 99, 100, 101, 102]⟩ : ByteArray).size : Int) from (by show x % 16 < (16 : Int); omega))
            have r2 := eq_true (show x % 16 < (16 : Int) by omega)
            have hx2 := bt_at (⟨#[48, 49, 50, 51, 52, 53, 54, 55, 56, 57, 97, 98, 99, 100, 101, 102]⟩ : ByteArray) (x % 16)
            go_wp2_with (first | ((with_reducible refine gate_dst (N := 9) rfl ?_); refine Ar.vidx_event rfl (D := 9) rfl (T := 26) rfl Tryd.underlying26 (by kernel_rfl) Tryd.underlying5 (k := .u8) (n := 32) (l := a0) qg (j := i) qg d c ?_; rw [← HX.out]) | ((with_reducible refine gate_callee (f := 41) rfl ?_); refine goesL_ (some 13) rfl rfl Tryd.func41 (by kernel_rfl) rfl #[.pointer (some ⟨gs, 0, none⟩), .int .u8 (bt (⟨#[48, 49, 50, 51, 52, 53, 54, 55, 56, 57, 97, 98, 99, 100, 101, 102]⟩ : ByteArray) (x / 16))] rfl (by (try simp only [List.map_toArray, List.map_cons, List.map_nil]); first | done | rfl) ?_; refine (sb_byte.calls gs _ _ _ (bt (⟨#[48, 49, 50, 51, 52, 53, 54, 55, 56, 57, 97, 98, 99, 100, 101, 102]⟩ : ByteArray) (x / 16)) w _ HP.out BS.out HO.out HB.out GEgs.out (by have := e2; simp; omega)).mono ?_; rintro e w3 ⟨v_, rfl, hbk_, ho, hb⟩; refine ⟨_, rfl, ?_⟩; replace HB := Aside0.mk (hb); replace HO := Aside0.mk (((by have h_ := ho; rw [show (acc).map (fun b => (b.toNat : Int)) ++ [bt (⟨#[48, 49, 50, 51, 52, 53, 54, 55, 56, 57, 97, 98, 99, 100, 101, 102]⟩ : ByteArray) (x / 16)] = (acc ++ [(bt (⟨#[48, 49, 50, 51, 52, 53, 54, 55, 56, 57, 97, 98, 99, 100, 101, 102]⟩ : ByteArray) (x / 16)).toNat.toUInt8]).map (fun b => (b.toNat : Int)) from (sha_Text.snoc _ (sha_Text.bt_in _ (x / 16)))] at h_; exact h_) : Kd.R (Kd.int .u8) 5 w3 w.heap.size (fun _ => True) v_ ((acc ++ [(bt (⟨#[48, 49, 50, 51, 52, 53, 54, 55, 56, 57, 97, 98, 99, 100, 101, 102]⟩ : ByteArray) (x / 16)).toNat.toUInt8]).map (fun b => (b.toNat : Int))))); replace BS := Aside0.mk (hbk_); replace HP := Aside0.mk ((Or.inr rfl : (some (⟨gs, 0, none⟩ : Addr)) = none ∨ (some (⟨gs, 0, none⟩ : Addr)) = some ⟨gs, 0, none⟩)); clear hbk_ ho hb) | ((with_reducible refine gate_callee (f := 41) rfl ?_); refine goesL_ (some 17) rfl rfl Tryd.func41 (by kernel_rfl) rfl #[.pointer (some ⟨gs, 0, none⟩), .int .u8 (bt (⟨#[48, 49, 50, 51, 52, 53, 54, 55, 56, 57, 97, 98, 99, 100, 101, 102]⟩ : ByteArray) (x % 16))] rfl (by (try simp only [List.map_toArray, List.map_cons, List.map_nil]); first | done | rfl) ?_; refine (sb_byte.calls gs _ _ _ (bt (⟨#[48, 49, 50, 51, 52, 53, 54, 55, 56, 57, 97, 98, 99, 100, 101, 102]⟩ : ByteArray) (x % 16)) w _ HP.out BS.out HO.out HB.out GEgs.out (by have := e2; simp; omega)).mono ?_; rintro e w4 ⟨v_, rfl, hbk_, ho, hb⟩; refine ⟨_, rfl, ?_⟩; replace HB := Aside0.mk (hb); replace HO := Aside0.mk (((by have h_ := ho; rw [show ((acc ++ [(bt (⟨#[48, 49, 50, 51, 52, 53, 54, 55, 56, 57, 97, 98, 99, 100, 101, 102]⟩ : ByteArray) (x / 16)).toNat.toUInt8])).map (fun b => (b.toNat : Int)) ++ [bt (⟨#[48, 49, 50, 51, 52, 53, 54, 55, 56, 57, 97, 98, 99, 100, 101, 102]⟩ : ByteArray) (x % 16)] = ((acc ++ [(bt (⟨#[48, 49, 50, 51, 52, 53, 54, 55, 56, 57, 97, 98, 99, 100, 101, 102]⟩ : ByteArray) (x / 16)).toNat.toUInt8]) ++ [(bt (⟨#[48, 49, 50, 51, 52, 53, 54, 55, 56, 57, 97, 98, 99, 100, 101, 102]⟩ : ByteArray) (x % 16)).toNat.toUInt8]).map (fun b => (b.toNat : Int)) from (sha_Text.snoc _ (sha_Text.bt_in _ (x % 16)))] at h_; exact h_) : Kd.R (Kd.int .u8) 5 w4 w.heap.size (fun _ => True) v_ (((acc ++ [(bt (⟨#[48, 49, 50, 51, 52, 53, 54, 55, 56, 57, 97, 98, 99, 100, 101, 102]⟩ : ByteArray) (x / 16)).toNat.toUInt8]) ++ [(bt (⟨#[48, 49, 50, 51, 52, 53, 54, 55, 56, 57, 97, 98, 99, 100, 101, 102]⟩ : ByteArray) (x % 16)).toNat.toUInt8]).map (fun b => (b.toNat : Int))))); replace BS := Aside0.mk (hbk_); replace HP := Aside0.mk ((Or.inr rfl : (some (⟨gs, 0, none⟩ : Addr)) = none ∨ (some (⟨gs, 0, none⟩ : Addr)) = some ⟨gs, 0, none⟩)); clear hbk_ ho hb))
            go_roundg k1
            case measure => have := HK1.out; omega
            case rel => exact ⟨_, _, _, _, rfl, (by have h_ := H'.out; rw [List.append_assoc]; exact ⟨h_⟩), ⟨by have := HK1.out; omega⟩, ⟨.inr rfl⟩, BS, HO, HB⟩
          · rw [if_neg e] at H
            exact absurd H (by simp)
        · rw [if_neg d] at H
          exact absurd H (by simp)
      · rw [if_neg c] at H
        have cb0 : decide (i < 32) = false := decide_eq_false c
        obtain rfl := Option.some.inj H
        clear H c
        go_wp2_with (first | ((with_reducible refine gate_callee (f := 42) rfl ?_); refine goesL_ (some 19) rfl rfl Tryd.func42 (by kernel_rfl) rfl #[.pointer (some ⟨gs, 0, none⟩)] rfl (by (try simp only [List.map_toArray, List.map_cons, List.map_nil]); first | done | rfl) ?_; refine (Go.Proofs.Tryd.Builder_String_any w.heap.size gs acc _ (sha_Text.isB HP.out BS.out HO.out GEgs.out) (below_size HB.out)).mono ?_; rintro e w5 ⟨rfl, hb⟩; refine ⟨_, rfl, ?_⟩; replace HB := Aside0.mk (HB.out.trans hb); clear hb))
        go_ret
        exact ⟨rfl, HB.out⟩
end Go.Proofs.YtkcdcbiobkcpmaaDoor.PA
end
