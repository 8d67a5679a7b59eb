/- Proved here: LawWholeTickets, the statement of the row that this text's last part names, and all that it rests on: words on walks, contracts of the program's functions, plain lemmas. Conditions: none but those of the given row. (part 4 of 6) -/
import Derived.Test.YtekmngghebpciaaGreatZK2
section
namespace Go.Proofs.YtekmngghebpciaaGreat.PW
open Go.RowKit Go.Proofs.YtekmngghebpciaaGreatW.PrintWords Go.Proofs.YtekmngghebpciaaGreatW.PrintLast Go.Proofs.YtekmngghebpciaaGreatW.PrintMore
attribute [local go_sem] max2_int min2_int max_two min_two max_three min_three max_four min_four
set_option linter.unusedVariables false
set_option linter.unusedSimpArgs false
def BdS (W : World) (base g : Nat) (T : Int) (vc vh vs vl : Value) (cl : List S96) (hs sm lg : List Int) : Prop :=
  W.heap[g]? = some (.cells #[.int .u64 T, vc, vh, vs, vl] 94 (0, 0)) ∧ base ≤ g ∧ Kd.R k96 96 W base (fun _ => True) vc cl ∧ Kd.R (Kd.int .u64) 24 W base (fun _ => True) vh hs ∧ Kd.R (Kd.int .i64) 3 W base (fun k => some k ≠ vl.ownBlock) vs sm ∧ Kd.R (Kd.int .i64) 3 W base (fun k => some k ≠ vs.ownBlock) vl lg
set_option maxHeartbeats 8000000 in
set_option maxRecDepth 100000 in
theorem sort_small {w : World} {base g : Nat} {T : Int} {vc vh vs vl : Value} {cl : List S96} {hs sm lg : List Int} (hb : BdS w base g T vc vh vs vl cl hs sm lg) (i : Int) (h0 : 0 ≤ i) (h1 : i < hs.length) (l1 : sm.length < 17592186044416) (c : rd hs i < T) :
    Calls Tryz.prog 46 #[.pointer (some ⟨g, 0, none⟩), .int .i64 i] w fun e w' => e = .returned (.tuple #[]) ∧ Below base w w' ∧ ∃ vs', BdS w' base g T vc vh vs' vl cl hs (sm ++ [i]) lg := by
  obtain ⟨hB, hg, hC, hH, hS, hL⟩ := hb
  obtain ⟨gh, ch, rfl, _, _, cells, hcells⟩ := Kd.R_form hH (by omega)
  have hH' := Kd.R_drew hH
  have hB' := blk_drew hB
  obtain ⟨ad, e, hx⟩ := Kd.at_int (Kd.R_reads' hH').2.2 i h0 h1
  injection e with e
  subst e
  simp only [add_plain] at hx
  have hc0 : w.drew.cell? ⟨g, 0, none⟩ = some (.int .u64 T) := (blk_cell hB' 0).trans rfl
  have hc2 : w.drew.cell? ⟨g, 2, none⟩ = some (.slice (some ⟨gh, 0, none⟩) hs.length ch) := (blk_cell hB' 2).trans rfl
  have p1 := eq_true h0
  have q1 := eq_true h1
  have hc3 : w.drew.cell? ⟨g, 3, none⟩ = some vs := (blk_cell hB' 3).trans rfl
  have hc4 : w.drew.cell? ⟨g, 4, none⟩ = some vl := (blk_cell hB' 4).trans rfl
  have hSd := Kd.R_drew hS
  have hLd := Kd.R_drew hL
  have hCd := Kd.R_drew hC
  have hbase : base ≤ w.drew.heap.size := Nat.le_trans hg (Nat.le_of_lt (blk_lt hB'))
  have HB : Below base w w.drew := below_drew1 (Below.refl base w)
  go_enter Tryz.func46, Tryz.ntmps46
  try go_wp2
  refine start_ (n := 13) (S := fun w' => w'.cell? ⟨g, 0, none⟩ = some (.int .u64 T) ∧ w'.cell? ⟨g, 2, none⟩ = some (.slice (some ⟨gh, 0, none⟩) hs.length ch) ∧ w'.cell? ⟨gh, i.toNat, none⟩ = some (.int .u64 (rd hs i))) (ds := []) #[false, false, false, false, false, false, false, false, false, false, false, false, false] (by kernel_rfl) rfl rfl ⟨hc0, hc2, hx⟩ (fun hHeld => ?_)
  generalize w.drew = wd at hB' hH' hx hc0 hc2 hc3 hc4 hSd hLd hCd hbase HB hHeld ⊢
  refine qP 0 (some 4) (qt 13 1) ?_
  refine qP 1 (some 5) (qt 13 3) ?_
  refine qP 2 (some 6) (qt 13 7) ?_
  refine take_ (i := 3) (N := some 7) (v := ?_) (a' := ?_) (qt 13 15) rfl rfl (by kernel_rfl) (fun _ _ _ h => h) (Or.inl ⟨by rfl, ?_⟩) hHeld ?_ ?_
  rotate_left
  · rintro w' ⟨s0, s1, s2⟩
    go_simp
    with_reducible rfl
  rotate_left
  · simp only [Act.put, zA_, zB_, zC_, i64_w, i32_w]
    rfl
  refine qP 4 (some 8) (qt 13 31) ?_
  refine qP 5 (some 9) (qt 13 63) ?_
  refine take_ (i := 6) (N := some 10) (v := ?_) (a' := ?_) (qt 13 127) rfl rfl (by kernel_rfl) (fun _ _ _ h => h) (Or.inl ⟨by rfl, ?_⟩) hHeld ?_ ?_
  rotate_left
  · rintro w' ⟨s0, s1, s2⟩
    go_simp
    with_reducible rfl
  rotate_left
  · simp only [Act.put, zA_, zB_, zC_, i64_w, i32_w]
    rfl
  refine qP 7 (some 11) (qt 13 255) ?_
  refine qP 8 (some 12) (qt 13 511) ?_
  refine qP 9 (some 13) (qt 13 1023) ?_
  refine qP 10 (some 14) (qt 13 2047) ?_
  refine take_ (i := 11) (N := some 15) (v := ?_) (a' := ?_) (qt 13 4095) rfl rfl (by kernel_rfl) (fun _ _ _ h => h) (Or.inl ⟨by rfl, ?_⟩) hHeld ?_ ?_
  rotate_left
  · rintro w' ⟨s0, s1, s2⟩
    go_simp
    with_reducible rfl
  rotate_left
  · simp only [Act.put, zA_, zB_, zC_, i64_w, i32_w]
    rfl
  refine qP 12 (some 16) (qt 13 8191) ?_
  refine done_ (by kernel_rfl) ?_
  clear c
  go_wp2_with (first | ((with_reducible refine gate_builtin (b := .append) (xs := #[.tmp 21, .tmp 23]) rfl ?_); (try (refine gate_guard (by rfl) ?_; dsimp only)); at_builtin; refine Kd.R_append (Kd.int .i64) (w0 := w) base rfl (.tmp 21) (.tmp 23) 92 3 (.int .i64 0) 8 rfl Tryz.underlying92 info3 rfl (by decide) (by omega) vs sm i [.int .i64 i] (fun k_ => some k_ ≠ vl.ownBlock) (fun _ => False) rfl rfl ?aP (fun _ hk => hk.elim) ?aF ?aO ?aB ?aS ?aL ?_; (case aP => exact rfl); (case aB => exact HB); (case aF => exact (fun k_ hk => Kd.fresh' (Kd.R_lt hLd) k_ hk)); (case aO => exact hSd); (case aS => exact hbase); (case aL => omega); intro v1 w1 ho hb hg1 hat; obtain ⟨A1, c1, rfl⟩ := Kd.R_slice ho; have hB1 := blk_grown (g := g) hB' hg1 (Kd.R_ne hSd hB' (by decide)); have hc1 := (blk_cell hB1 3).trans rfl; have hf1 := blk_frozen hB1 3) | ((with_reducible refine gate_store (t := 92) (p := 26) rfl ?_); refine store_event (t := 92) (p := 26) (v := ?_) (w1 := (w1.setCell ⟨g, 3, none⟩ (.slice A1 (sm ++ [i]).length c1))) ?hg ?ho ?hn ?hr ?_; (case ho => rfl); (case hg => rfl); (case hn => rfl); (case hr => first | (go_simp; done) | (go_simp; rfl)); intro w2 hw))
  go_end0
  subst hw
  have hC1 := Kd.R_over' hCd (Kd.R_typed hSd) (by decide) hg1
  have hH1 := Kd.R_over' hH' (Kd.R_typed hSd) (by decide) hg1
  have hL1 := Kd.R_after (ok := (fun _ => True)) (Kd.R_mono hLd (fun _ hk => ⟨trivial, hk⟩)) hg1 hat
  refine ⟨rfl, hb.setCell (p := ⟨g, 3, none⟩) hg _, .slice A1 (sm ++ [i]).length c1, ?_, hg, Kd.R_set hC1 hB1 (by decide) 3 _, Kd.R_set hH1 hB1 (by decide) 3 _, ?_, ?_⟩
  · simpa using blk_set hB1 3 (.slice A1 (sm ++ [i]).length c1)
  · have := Kd.R_set ho hB1 (by decide) 3 (.slice A1 (sm ++ [i]).length c1)
    simpa using this
  · have := Kd.R_mono (Kd.R_set hL1 hB1 (by decide) 3 (.slice A1 (sm ++ [i]).length c1)) (fun _ hk => hk.2)
    simpa using this
set_option maxHeartbeats 8000000 in
set_option maxRecDepth 100000 in
theorem sort_large {w : World} {base g : Nat} {T : Int} {vc vh vs vl : Value} {cl : List S96} {hs sm lg : List Int} (hb : BdS w base g T vc vh vs vl cl hs sm lg) (i : Int) (h0 : 0 ≤ i) (h1 : i < hs.length) (l1 : lg.length < 17592186044416) (c : ¬ rd hs i < T) :
    Calls Tryz.prog 46 #[.pointer (some ⟨g, 0, none⟩), .int .i64 i] w fun e w' => e = .returned (.tuple #[]) ∧ Below base w w' ∧ ∃ vl', BdS w' base g T vc vh vs vl' cl hs sm (lg ++ [i]) := by
  obtain ⟨hB, hg, hC, hH, hS, hL⟩ := hb
  obtain ⟨gh, ch, rfl, _, _, cells, hcells⟩ := Kd.R_form hH (by omega)
  have hH' := Kd.R_drew hH
  have hB' := blk_drew hB
  obtain ⟨ad, e, hx⟩ := Kd.at_int (Kd.R_reads' hH').2.2 i h0 h1
  injection e with e
  subst e
  simp only [add_plain] at hx
  have hc0 : w.drew.cell? ⟨g, 0, none⟩ = some (.int .u64 T) := (blk_cell hB' 0).trans rfl
  have hc2 : w.drew.cell? ⟨g, 2, none⟩ = some (.slice (some ⟨gh, 0, none⟩) hs.length ch) := (blk_cell hB' 2).trans rfl
  have p1 := eq_true h0
  have q1 := eq_true h1
  have hc3 : w.drew.cell? ⟨g, 3, none⟩ = some vs := (blk_cell hB' 3).trans rfl
  have hc4 : w.drew.cell? ⟨g, 4, none⟩ = some vl := (blk_cell hB' 4).trans rfl
  have hSd := Kd.R_drew hS
  have hLd := Kd.R_drew hL
  have hCd := Kd.R_drew hC
  have hbase : base ≤ w.drew.heap.size := Nat.le_trans hg (Nat.le_of_lt (blk_lt hB'))
  have HB : Below base w w.drew := below_drew1 (Below.refl base w)
  go_enter Tryz.func46, Tryz.ntmps46
  try go_wp2
  refine start_ (n := 13) (S := fun w' => w'.cell? ⟨g, 0, none⟩ = some (.int .u64 T) ∧ w'.cell? ⟨g, 2, none⟩ = some (.slice (some ⟨gh, 0, none⟩) hs.length ch) ∧ w'.cell? ⟨gh, i.toNat, none⟩ = some (.int .u64 (rd hs i))) (ds := []) #[false, false, false, false, false, false, false, false, false, false, false, false, false] (by kernel_rfl) rfl rfl ⟨hc0, hc2, hx⟩ (fun hHeld => ?_)
  generalize w.drew = wd at hB' hH' hx hc0 hc2 hc3 hc4 hSd hLd hCd hbase HB hHeld ⊢
  refine qP 0 (some 4) (qt 13 1) ?_
  refine qP 1 (some 5) (qt 13 3) ?_
  refine qP 2 (some 6) (qt 13 7) ?_
  refine take_ (i := 3) (N := some 7) (v := ?_) (a' := ?_) (qt 13 15) rfl rfl (by kernel_rfl) (fun _ _ _ h => h) (Or.inl ⟨by rfl, ?_⟩) hHeld ?_ ?_
  rotate_left
  · rintro w' ⟨s0, s1, s2⟩
    go_simp
    with_reducible rfl
  rotate_left
  · simp only [Act.put, zA_, zB_, zC_, i64_w, i32_w]
    rfl
  refine qP 4 (some 8) (qt 13 31) ?_
  refine qP 5 (some 9) (qt 13 63) ?_
  refine take_ (i := 6) (N := some 10) (v := ?_) (a' := ?_) (qt 13 127) rfl rfl (by kernel_rfl) (fun _ _ _ h => h) (Or.inl ⟨by rfl, ?_⟩) hHeld ?_ ?_
  rotate_left
  · rintro w' ⟨s0, s1, s2⟩
    go_simp
    with_reducible rfl
  rotate_left
  · simp only [Act.put, zA_, zB_, zC_, i64_w, i32_w]
    rfl
  refine qP 7 (some 11) (qt 13 255) ?_
  refine qP 8 (some 12) (qt 13 511) ?_
  refine qP 9 (some 13) (qt 13 1023) ?_
  refine qP 10 (some 14) (qt 13 2047) ?_
  refine take_ (i := 11) (N := some 15) (v := ?_) (a' := ?_) (qt 13 4095) rfl rfl (by kernel_rfl) (fun _ _ _ h => h) (Or.inl ⟨by rfl, ?_⟩) hHeld ?_ ?_
  rotate_left
  · rintro w' ⟨s0, s1, s2⟩
    go_simp
    with_reducible rfl
  rotate_left
  · simp only [Act.put, zA_, zB_, zC_, i64_w, i32_w]
    rfl
  refine qP 12 (some 16) (qt 13 8191) ?_
  refine done_ (by kernel_rfl) ?_
  go_wp2_with (first | ((with_reducible refine gate_builtin (b := .append) (xs := #[.tmp 31, .tmp 33]) rfl ?_); (try (refine gate_guard (by rfl) ?_; dsimp only)); at_builtin; refine Kd.R_append (Kd.int .i64) (w0 := w) base rfl (.tmp 31) (.tmp 33) 92 3 (.int .i64 0) 8 rfl Tryz.underlying92 info3 rfl (by decide) (by omega) vl lg i [.int .i64 i] (fun k_ => some k_ ≠ vs.ownBlock) (fun _ => False) rfl rfl ?aP (fun _ hk => hk.elim) ?aF ?aO ?aB ?aS ?aL ?_; (case aP => exact rfl); (case aB => exact HB); (case aF => exact (fun k_ hk => Kd.fresh' (Kd.R_lt hSd) k_ hk)); (case aO => exact hLd); (case aS => exact hbase); (case aL => omega); intro v1 w1 ho hb hg1 hat; obtain ⟨A1, c1, rfl⟩ := Kd.R_slice ho; have hB1 := blk_grown (g := g) hB' hg1 (Kd.R_ne hLd hB' (by decide)); have hc1 := (blk_cell hB1 4).trans rfl; have hf1 := blk_frozen hB1 4) | ((with_reducible refine gate_store (t := 92) (p := 36) rfl ?_); refine store_event (t := 92) (p := 36) (v := ?_) (w1 := (w1.setCell ⟨g, 4, none⟩ (.slice A1 (lg ++ [i]).length c1))) ?hg ?ho ?hn ?hr ?_; (case ho => rfl); (case hg => rfl); (case hn => rfl); (case hr => first | (go_simp; done) | (go_simp; rfl)); intro w2 hw))
  go_end0
  subst hw
  have hC1 := Kd.R_over' hCd (Kd.R_typed hLd) (by decide) hg1
  have hH1 := Kd.R_over' hH' (Kd.R_typed hLd) (by decide) hg1
  have hS1 := Kd.R_after (ok := (fun _ => True)) (Kd.R_mono hSd (fun _ hk => ⟨trivial, hk⟩)) hg1 hat
  refine ⟨rfl, hb.setCell (p := ⟨g, 4, none⟩) hg _, .slice A1 (lg ++ [i]).length c1, ?_, hg, Kd.R_set hC1 hB1 (by decide) 4 _, Kd.R_set hH1 hB1 (by decide) 4 _, ?_, ?_⟩
  · simpa using blk_set hB1 4 (.slice A1 (lg ++ [i]).length c1)
  · have := Kd.R_mono (Kd.R_set hS1 hB1 (by decide) 4 (.slice A1 (lg ++ [i]).length c1)) (fun _ hk => hk.2)
    simpa using this
  · have := Kd.R_set ho hB1 (by decide) 4 (.slice A1 (lg ++ [i]).length c1)
    simpa using this
set_option maxHeartbeats 8000000 in
set_option maxRecDepth 100000 in
theorem pop_small {w : World} {base g : Nat} {T : Int} {vc vh vs vl : Value} {cl : List S96} {hs sm lg : List Int} (hb : BdS w base g T vc vh vs vl cl hs sm lg) (h0 : 0 ≤ wrap64 ((sm.length : Int) - 1)) (h1 : wrap64 ((sm.length : Int) - 1) < sm.length) :
    Calls Tryz.prog 77 #[.pointer (some ⟨g, 3, none⟩)] w fun e w' => e = .returned (.int .i64 (rd sm (wrap64 ((sm.length : Int) - 1)))) ∧ Below base w w' ∧ ∃ vs', BdS w' base g T vc vh vs' vl cl hs (sm.take (wrap64 ((sm.length : Int) - 1)).toNat) lg := by
  obtain ⟨hB, hg, hC, hH, hS, hL⟩ := hb
  have HB0 : Below base w w := Below.refl base w
  have hp : 0 < sm.length := by omega
  obtain ⟨gs, cs, rfl, _, _, cells, hcells⟩ := Kd.R_form hS hp
  have hCd := Kd.R_drew hC
  have hHd := Kd.R_drew hH
  have hSd := Kd.R_drew hS
  have hLd := Kd.R_drew hL
  have hB' := blk_drew hB
  have HB := below_drew1 HB0
  obtain ⟨ad, e, hx⟩ := Kd.at_int (Kd.R_reads' hSd).2.2 _ h0 h1
  injection e with e
  subst e
  simp only [add_plain] at hx
  have hcx : w.drew.cell? ⟨g, 3, none⟩ = some (.slice (some ⟨gs, 0, none⟩) sm.length cs) := (blk_cell hB' 3).trans rfl
  have p1 := eq_true h0
  have q1 := eq_true h1
  have r1 : decide ((wrap64 ((sm.length : Int) - 1)) ≤ (sm.length : Int)) = true := decide_eq_true (by omega)
  have r2 := eq_true (show wrap64 ((sm.length : Int) - 1) ≤ (sm.length : Int) by omega)
  have r3 := eq_true (show (wrap64 ((sm.length : Int) - 1)).toNat ≤ cs by have := (Kd.R_reads' hSd).2.1; omega)
  have r4 := eq_true (show wrap64 ((sm.length : Int) - 1) ≤ (cs : Int) by have := (Kd.R_reads' hSd).2.1; omega)
  go_enter Tryz.func77, Tryz.ntmps77
  go_wp2
  refine start_ (n := 11) (S := fun w' => w'.cell? ⟨g, 3, none⟩ = some (.slice (some ⟨gs, 0, none⟩) sm.length cs) ∧ w'.cell? ⟨gs, (wrap64 ((sm.length : Int) - 1)).toNat, none⟩ = some (.int .i64 (rd sm (wrap64 ((sm.length : Int) - 1))))) (ds := []) #[false, false, false, false, false, false, false, false, false, false, false] (by kernel_rfl) rfl rfl ⟨hcx, hx⟩ (fun hHeld => ?_)
  generalize w.drew = wd at hB' hCd hHd hSd hLd hx hcx HB hHeld ⊢
  refine qP 0 (some 4) (qt 11 1) ?_
  refine qP 1 (some 5) (qt 11 3) ?_
  refine qP 3 (some 7) (qt 11 11) ?_
  refine qP 4 (some 8) (qt 11 27) ?_
  refine take_ (i := 2) (N := some 6) (v := ?_) (a' := ?_) (qt 11 31) rfl rfl (by kernel_rfl) (fun _ _ _ h => h) (Or.inl ⟨by rfl, ?_⟩) hHeld ?_ ?_
  rotate_left
  · rintro w' ⟨s0, s1⟩
    go_simp
    with_reducible rfl
  rotate_left
  · simp only [Act.put, zA_, zB_, zC_, i64_w, i32_w]
    rfl
  refine take_ (i := 5) (N := some 9) (v := ?_) (a' := ?_) (qt 11 63) rfl rfl (by kernel_rfl) (fun _ _ _ h => h) (Or.inl ⟨by rfl, ?_⟩) hHeld ?_ ?_
  rotate_left
  · rintro w' ⟨s0, s1⟩
    go_simp
    with_reducible rfl
  rotate_left
  · simp only [Act.put, zA_, zB_, zC_, i64_w, i32_w]
    rfl
  refine qP 6 (some 10) (qt 11 127) ?_
  refine qP 7 (some 11) (qt 11 255) ?_
  refine qP 8 (some 12) (qt 11 511) ?_
  refine take_ (i := 9) (N := some 13) (v := ?_) (a' := ?_) (qt 11 1023) rfl rfl (by kernel_rfl) (fun _ _ _ h => h) (Or.inl ⟨by rfl, ?_⟩) hHeld ?_ ?_
  rotate_left
  · rintro w' ⟨s0, s1⟩
    go_simp
    with_reducible rfl
  rotate_left
  · simp only [Act.put, zA_, zB_, zC_, i64_w, i32_w]
    rfl
  refine qP 10 (some 3) (qt 11 2047) ?_
  refine done_ (by kernel_rfl) ?_
  try go_wp2
  clear hx
  have hB' := blk_drew hB'
  have hCd := Kd.R_drew hCd
  have hHd := Kd.R_drew hHd
  have hSd := Kd.R_drew hSd
  have hLd := Kd.R_drew hLd
  have HB := below_drew1 HB
  have hcx : wd.drew.cell? ⟨g, 3, none⟩ = some (.slice (some ⟨gs, 0, none⟩) sm.length cs) := (blk_cell hB' 3).trans rfl
  have hfx := blk_frozen hB' 3
  refine start_ (n := 12) (S := fun w' => w'.cell? ⟨g, 3, none⟩ = some (.slice (some ⟨gs, 0, none⟩) sm.length cs)) (ds := [11]) #[false, false, false, false, false, false, false, false, false, false, false, false] (by kernel_rfl) rfl rfl (hcx) (fun hHeld => ?_)
  generalize wd.drew = we at hB' hCd hHd hSd hLd hcx hfx HB hHeld ⊢
  refine qP 0 (some 14) (qt 12 1) ?_
  refine qP 1 (some 15) (qt 12 3) ?_
  refine qP 2 (some 16) (qt 12 7) ?_
  refine qP 4 (some 18) (qt 12 23) ?_
  refine qP 5 (some 19) (qt 12 55) ?_
  refine take_ (i := 3) (N := some 17) (v := ?_) (a' := ?_) (qt 12 63) rfl rfl (by kernel_rfl) (fun _ _ _ h => h) (Or.inl ⟨by rfl, ?_⟩) hHeld ?_ ?_
  rotate_left
  · intro w' s0
    go_simp
    with_reducible rfl
  rotate_left
  · simp only [Act.put, zA_, zB_, zC_, i64_w, i32_w]
    rfl
  refine take_ (i := 6) (N := some 20) (v := ?_) (a' := ?_) (qt 12 127) rfl rfl (by kernel_rfl) (fun _ _ _ h => h) (Or.inl ⟨by rfl, ?_⟩) hHeld ?_ ?_
  rotate_left
  · intro w' s0
    go_simp
    with_reducible rfl
  rotate_left
  · simp only [Act.put, zA_, zB_, zC_, i64_w, i32_w]
    rfl
  refine qP 7 (some 21) (qt 12 255) ?_
  refine qP 8 (some 22) (qt 12 511) ?_
  refine qP 9 (some 23) (qt 12 1023) ?_
  refine qP 10 (some 24) (qt 12 2047) ?_
  refine last_ (i := 11) (N := none) (qt 12 4095) rfl rfl (by kernel_rfl) (by decide) (fun K hK => ?_)
  refine skip_ (w1 := ?_) (by rfl) rfl ?_ ?_
  rotate_left
  · go_simp
    rfl
  refine hK.out _ _ ?_
  clear hK K
  refine done_ (by kernel_rfl) ?_
  try go_wp2
  go_ret
  have hle : (wrap64 ((sm.length : Int) - 1)).toNat ≤ sm.length := by omega
  have hbk : base ≤ g := hg
  refine ⟨rfl, HB.setCell (p := ⟨g, 3, none⟩) hg _, .slice (some ⟨gs, 0, none⟩) (wrap64 ((sm.length : Int) - 1)).toNat cs, ?_, hg, Kd.R_set hCd hB' (by decide) 3 _, Kd.R_set hHd hB' (by decide) 3 _, ?_, ?_⟩
  · simpa using blk_set hB' 3 (.slice (some ⟨gs, 0, none⟩) (wrap64 ((sm.length : Int) - 1)).toNat cs)
  · have := Kd.R_set (Kd.R_take hSd hle) hB' (by decide) 3 (.slice (some ⟨gs, 0, none⟩) (wrap64 ((sm.length : Int) - 1)).toNat cs)
    simpa using this
  · have := Kd.R_set hLd hB' (by decide) 3 (.slice (some ⟨gs, 0, none⟩) (wrap64 ((sm.length : Int) - 1)).toNat cs)
    exact Kd.R_mono this (fun k_ hk => hk)
set_option maxHeartbeats 8000000 in
set_option maxRecDepth 100000 in
theorem pop_large {w : World} {base g : Nat} {T : Int} {vc vh vs vl : Value} {cl : List S96} {hs sm lg : List Int} (hb : BdS w base g T vc vh vs vl cl hs sm lg) (h0 : 0 ≤ wrap64 ((lg.length : Int) - 1)) (h1 : wrap64 ((lg.length : Int) - 1) < lg.length) :
    Calls Tryz.prog 77 #[.pointer (some ⟨g, 4, none⟩)] w fun e w' => e = .returned (.int .i64 (rd lg (wrap64 ((lg.length : Int) - 1)))) ∧ Below base w w' ∧ ∃ vl', BdS w' base g T vc vh vs vl' cl hs sm (lg.take (wrap64 ((lg.length : Int) - 1)).toNat) := by
  obtain ⟨hB, hg, hC, hH, hS, hL⟩ := hb
  have HB0 : Below base w w := Below.refl base w
  have hp : 0 < lg.length := by omega
  obtain ⟨gs, cs, rfl, _, _, cells, hcells⟩ := Kd.R_form hL hp
  have hCd := Kd.R_drew hC
  have hHd := Kd.R_drew hH
  have hSd := Kd.R_drew hS
  have hLd := Kd.R_drew hL
  have hB' := blk_drew hB
  have HB := below_drew1 HB0
  obtain ⟨ad, e, hx⟩ := Kd.at_int (Kd.R_reads' hLd).2.2 _ h0 h1
  injection e with e
  subst e
  simp only [add_plain] at hx
  have hcx : w.drew.cell? ⟨g, 4, none⟩ = some (.slice (some ⟨gs, 0, none⟩) lg.length cs) := (blk_cell hB' 4).trans rfl
  have p1 := eq_true h0
  have q1 := eq_true h1
  have r1 : decide ((wrap64 ((lg.length : Int) - 1)) ≤ (lg.length : Int)) = true := decide_eq_true (by omega)
  have r2 := eq_true (show wrap64 ((lg.length : Int) - 1) ≤ (lg.length : Int) by omega)
  have r3 := eq_true (show (wrap64 ((lg.length : Int) - 1)).toNat ≤ cs by have := (Kd.R_reads' hLd).2.1; omega)
  have r4 := eq_true (show wrap64 ((lg.length : Int) - 1) ≤ (cs : Int) by have := (Kd.R_reads' hLd).2.1; omega)
  go_enter Tryz.func77, Tryz.ntmps77
  go_wp2
  refine start_ (n := 11) (S := fun w' => w'.cell? ⟨g, 4, none⟩ = some (.slice (some ⟨gs, 0, none⟩) lg.length cs) ∧ w'.cell? ⟨gs, (wrap64 ((lg.length : Int) - 1)).toNat, none⟩ = some (.int .i64 (rd lg (wrap64 ((lg.length : Int) - 1))))) (ds := []) #[false, false, false, false, false, false, false, false, false, false, false] (by kernel_rfl) rfl rfl ⟨hcx, hx⟩ (fun hHeld => ?_)
  generalize w.drew = wd at hB' hCd hHd hSd hLd hx hcx HB hHeld ⊢
  refine qP 0 (some 4) (qt 11 1) ?_
  refine qP 1 (some 5) (qt 11 3) ?_
  refine qP 3 (some 7) (qt 11 11) ?_
  refine qP 4 (some 8) (qt 11 27) ?_
  refine take_ (i := 2) (N := some 6) (v := ?_) (a' := ?_) (qt 11 31) rfl rfl (by kernel_rfl) (fun _ _ _ h => h) (Or.inl ⟨by rfl, ?_⟩) hHeld ?_ ?_
  rotate_left
  · rintro w' ⟨s0, s1⟩
    go_simp
    with_reducible rfl
  rotate_left
  · simp only [Act.put, zA_, zB_, zC_, i64_w, i32_w]
    rfl
  refine take_ (i := 5) (N := some 9) (v := ?_) (a' := ?_) (qt 11 63) rfl rfl (by kernel_rfl) (fun _ _ _ h => h) (Or.inl ⟨by rfl, ?_⟩) hHeld ?_ ?_
  rotate_left
  · rintro w' ⟨s0, s1⟩
    go_simp
    with_reducible rfl
  rotate_left
  · simp only [Act.put, zA_, zB_, zC_, i64_w, i32_w]
    rfl
  refine qP 6 (some 10) (qt 11 127) ?_
  refine qP 7 (some 11) (qt 11 255) ?_
  refine qP 8 (some 12) (qt 11 511) ?_
  refine take_ (i := 9) (N := some 13) (v := ?_) (a' := ?_) (qt 11 1023) rfl rfl (by kernel_rfl) (fun _ _ _ h => h) (Or.inl ⟨by rfl, ?_⟩) hHeld ?_ ?_
  rotate_left
  · rintro w' ⟨s0, s1⟩
    go_simp
    with_reducible rfl
  rotate_left
  · simp only [Act.put, zA_, zB_, zC_, i64_w, i32_w]
    rfl
  refine qP 10 (some 3) (qt 11 2047) ?_
  refine done_ (by kernel_rfl) ?_
  try go_wp2
  clear hx
  have hB' := blk_drew hB'
  have hCd := Kd.R_drew hCd
  have hHd := Kd.R_drew hHd
  have hSd := Kd.R_drew hSd
  have hLd := Kd.R_drew hLd
  have HB := below_drew1 HB
  have hcx : wd.drew.cell? ⟨g, 4, none⟩ = some (.slice (some ⟨gs, 0, none⟩) lg.length cs) := (blk_cell hB' 4).trans rfl
  have hfx := blk_frozen hB' 4
  refine start_ (n := 12) (S := fun w' => w'.cell? ⟨g, 4, none⟩ = some (.slice (some ⟨gs, 0, none⟩) lg.length cs)) (ds := [11]) #[false, false, false, false, false, false, false, false, false, false, false, false] (by kernel_rfl) rfl rfl (hcx) (fun hHeld => ?_)
  generalize wd.drew = we at hB' hCd hHd hSd hLd hcx hfx HB hHeld ⊢
  refine qP 0 (some 14) (qt 12 1) ?_
  refine qP 1 (some 15) (qt 12 3) ?_
  refine qP 2 (some 16) (qt 12 7) ?_
  refine qP 4 (some 18) (qt 12 23) ?_
  refine qP 5 (some 19) (qt 12 55) ?_
  refine take_ (i := 3) (N := some 17) (v := ?_) (a' := ?_) (qt 12 63) rfl rfl (by kernel_rfl) (fun _ _ _ h => h) (Or.inl ⟨by rfl, ?_⟩) hHeld ?_ ?_
  rotate_left
  · intro w' s0
    go_simp
    with_reducible rfl
  rotate_left
  · simp only [Act.put, zA_, zB_, zC_, i64_w, i32_w]
    rfl
  refine take_ (i := 6) (N := some 20) (v := ?_) (a' := ?_) (qt 12 127) rfl rfl (by kernel_rfl) (fun _ _ _ h => h) (Or.inl ⟨by rfl, ?_⟩) hHeld ?_ ?_
  rotate_left
  · intro w' s0
    go_simp
    with_reducible rfl
  rotate_left
  · simp only [Act.put, zA_, zB_, zC_, i64_w, i32_w]
    rfl
  refine qP 7 (some 21) (qt 12 255) ?_
  refine qP 8 (some 22) (qt 12 511) ?_
  refine qP 9 (some 23) (qt 12 1023) ?_
  refine qP 10 (some 24) (qt 12 2047) ?_
  refine last_ (i := 11) (N := none) (qt 12 4095) rfl rfl (by kernel_rfl) (by decide) (fun K hK => ?_)
  refine skip_ (w1 := ?_) (by rfl) rfl ?_ ?_
  rotate_left
  · go_simp
    rfl
  refine hK.out _ _ ?_
  clear hK K
  refine done_ (by kernel_rfl) ?_
  try go_wp2
  go_ret
  have hle : (wrap64 ((lg.length : Int) - 1)).toNat ≤ lg.length := by omega
  have hbk : base ≤ g := hg
  refine ⟨rfl, HB.setCell (p := ⟨g, 4, none⟩) hg _, .slice (some ⟨gs, 0, none⟩) (wrap64 ((lg.length : Int) - 1)).toNat cs, ?_, hg, Kd.R_set hCd hB' (by decide) 4 _, Kd.R_set hHd hB' (by decide) 4 _, ?_, ?_⟩
  · simpa using blk_set hB' 4 (.slice (some ⟨gs, 0, none⟩) (wrap64 ((lg.length : Int) - 1)).toNat cs)
  · have := Kd.R_set hSd hB' (by decide) 4 (.slice (some ⟨gs, 0, none⟩) (wrap64 ((lg.length : Int) - 1)).toNat cs)
    exact Kd.R_mono this (fun k_ hk => hk)
  · have := Kd.R_set (Kd.R_take hLd hle) hB' (by decide) 4 (.slice (some ⟨gs, 0, none⟩) (wrap64 ((lg.length : Int) - 1)).toNat cs)
    simpa using this
theorem BdS.drew {w : World} {base g : Nat} {T : Int} {vc vh vs vl : Value} {cl : List S96} {hs sm lg : List Int} (hb : BdS w base g T vc vh vs vl cl hs sm lg) : BdS w.drew base g T vc vh vs vl cl hs sm lg :=
  ⟨blk_drew hb.1, hb.2.1, Kd.R_drew hb.2.2.1, Kd.R_drew hb.2.2.2.1, Kd.R_drew hb.2.2.2.2.1, Kd.R_drew hb.2.2.2.2.2⟩
theorem BdS.cells {w : World} {base g : Nat} {T : Int} {vc vh vs vl : Value} {cl : List S96} {hs sm lg : List Int} (hb : BdS w base g T vc vh vs vl cl hs sm lg) :
    w.cell? ⟨g, 0, none⟩ = some (.int .u64 T) ∧ w.cell? ⟨g, 1, none⟩ = some vc ∧ w.cell? ⟨g, 2, none⟩ = some vh ∧ w.cell? ⟨g, 3, none⟩ = some vs ∧ w.cell? ⟨g, 4, none⟩ = some vl :=
  ⟨(blk_cell hb.1 0).trans rfl, (blk_cell hb.1 1).trans rfl, (blk_cell hb.1 2).trans rfl, (blk_cell hb.1 3).trans rfl, (blk_cell hb.1 4).trans rfl⟩
theorem BdS.has {w : World} {base g gh ch : Nat} {T : Int} {vc vs vl : Value} {cl : List S96} {hs sm lg : List Int} (hb : BdS w base g T vc (.slice (some ⟨gh, 0, none⟩) hs.length ch) vs vl cl hs sm lg) (i : Int) (h0 : 0 ≤ i) (h1 : i < hs.length) : w.cell? ⟨gh, i.toNat, none⟩ = some (.int .u64 (rd hs i)) := by
  obtain ⟨ad, e, hx⟩ := Kd.at_int (Kd.R_reads' hb.2.2.2.1).2.2 i h0 h1
  injection e with e
  subst e
  simpa only [add_plain] using hx
theorem BdS.put {w : World} {base g gc cc : Nat} {T : Int} {vh vs vl : Value} {cl : List S96} {hs sm lg : List Int} (hb : BdS w base g T (.slice (some ⟨gc, 0, none⟩) cl.length cc) vh vs vl cl hs sm lg) (i x y : Int) (h0 : 0 ≤ i) (h1 : i < cl.length) :
    (∃ u0, w.cell? ⟨gc, i.toNat * 2, none⟩ = some u0) ∧ (∃ u1, w.cell? ⟨gc, i.toNat * 2 + 1, none⟩ = some u1) ∧ w.frozen? ⟨gc, i.toNat * 2, none⟩ = false ∧ w.frozen? ⟨gc, i.toNat * 2 + 1, none⟩ = false ∧
    BdS ((w.setCell ⟨gc, i.toNat * 2, none⟩ (.int .u64 x)).setCell ⟨gc, i.toNat * 2 + 1, none⟩ (.int .i64 y)) base g T (.slice (some ⟨gc, 0, none⟩) cl.length cc) vh vs vl (cl.set i.toNat ⟨x, y⟩) hs sm lg ∧
    Below base w ((w.setCell ⟨gc, i.toNat * 2, none⟩ (.int .u64 x)).setCell ⟨gc, i.toNat * 2 + 1, none⟩ (.int .i64 y)) := by
  obtain ⟨hB, hg, hC, hH, hS, hL⟩ := hb
  obtain ⟨ce, hcl, hM, hcc, hfr⟩ := Kd.R_elem hC z96 i h0 h1
  obtain rfl := k96_openM hM
  have HP := Kd.R_seg hC i h0 h1 (seg := [.int .u64 x, .int .i64 y]) (j := 0) hcl hcc (show 2 ≤ 2 from by decide) (x' := (⟨x, y⟩ : S96)) (k96_mkM _ _ _ (⟨x, y⟩ : S96)) (fun _ hk => hk)
  have hx0 := hcc 0 _ rfl
  have hx1 := hcc 1 _ rfl
  have hf0 := hfr 0
  have hf1 := hfr 1
  simp only [show (k96).sz = 2 from rfl, Nat.mul_one, Nat.add_zero] at hx0 hx1 hf0 hf1
  obtain ⟨gc', cc', he, hbc, hlc, hcells⟩ := Kd.R_form hC (by omega)
  injection he with he _ _
  injection he with he
  injection he with he
  subst he
  refine ⟨⟨_, hx0⟩, ⟨_, hx1⟩, hf0, hf1, ⟨?_, hg, HP.1, ?_, ?_, ?_⟩, ?_⟩
  · exact blk_grown (g := g) hB HP.2 (by have := Kd.R_ne hC hB (by decide); simpa [Value.ownBlock] using this)
  · exact Kd.R_over' (v := (.slice (some ⟨gc, 0, none⟩) cl.length cc)) hH (Kd.R_typed hC) (by decide) HP.2
  · exact Kd.R_over' (v := (.slice (some ⟨gc, 0, none⟩) cl.length cc)) hS (Kd.R_typed hC) (by decide) HP.2
  · exact Kd.R_over' (v := (.slice (some ⟨gc, 0, none⟩) cl.length cc)) hL (Kd.R_typed hC) (by decide) HP.2
  · exact (((Below.refl base w).setCell (p := ⟨gc, i.toNat * 2, none⟩) hbc _).setCell (p := ⟨gc, i.toNat * 2 + 1, none⟩) hbc _)
theorem BdS.put_has {w : World} {base g gh ch : Nat} {T : Int} {vc vs vl : Value} {cl : List S96} {hs sm lg : List Int} (hb : BdS w base g T vc (.slice (some ⟨gh, 0, none⟩) hs.length ch) vs vl cl hs sm lg) (i x : Int) (h0 : 0 ≤ i) (h1 : i < hs.length) :
    w.frozen? ⟨gh, i.toNat, none⟩ = false ∧ BdS (w.setCell ⟨gh, i.toNat, none⟩ (.int .u64 x)) base g T vc (.slice (some ⟨gh, 0, none⟩) hs.length ch) vs vl cl (hs.set i.toNat x) sm lg ∧ Below base w (w.setCell ⟨gh, i.toNat, none⟩ (.int .u64 x)) := by
  obtain ⟨hB, hg, hC, hH, hS, hL⟩ := hb
  have HP := Kd.R_putg hH i x
  obtain ⟨gh', ch', he, hbc, hlc, cells, hcells⟩ := Kd.R_form hH (by omega)
  injection he with he _ _
  injection he with he
  injection he with he
  subst he
  refine ⟨blk_frozen hcells _, ⟨?_, hg, ?_, HP.1, ?_, ?_⟩, ?_⟩
  · exact blk_grown (g := g) hB HP.2 (by have := Kd.R_ne hH hB (by decide); simpa [Value.ownBlock] using this)
  · exact Kd.R_over' (v := (.slice (some ⟨gh, 0, none⟩) hs.length ch)) hC (Kd.R_typed hH) (by decide) HP.2
  · exact Kd.R_over' (v := (.slice (some ⟨gh, 0, none⟩) hs.length ch)) hS (Kd.R_typed hH) (by decide) HP.2
  · exact Kd.R_over' (v := (.slice (some ⟨gh, 0, none⟩) hs.length ch)) hL (Kd.R_typed hH) (by decide) HP.2
  · exact ((Below.refl base w).setCell (p := ⟨gh, i.toNat, none⟩) hbc _)
theorem pop_small' {w : World} {base g : Nat} {T : Int} {vc vh vs vl : Value} {cl : List S96} {hs sm lg : List Int} (hb : BdS w base g T vc vh vs vl cl hs sm lg) (h0 : 0 ≤ wrap64 ((sm.length : Int) - 1)) (h1 : wrap64 ((sm.length : Int) - 1) < sm.length) (i : Int) (hi : rd sm (wrap64 ((sm.length : Int) - 1)) = i) (sm' : List Int) (hsm : sm.take (wrap64 ((sm.length : Int) - 1)).toNat = sm') :
    Calls Tryz.prog 77 #[.pointer (some ⟨g, 3, none⟩)] w fun e w' => e = .returned (.int .i64 i) ∧ Below base w w' ∧ ∃ vs', BdS w' base g T vc vh vs' vl cl hs sm' lg := by
  subst hi hsm
  exact pop_small hb h0 h1
theorem pop_large' {w : World} {base g : Nat} {T : Int} {vc vh vs vl : Value} {cl : List S96} {hs sm lg : List Int} (hb : BdS w base g T vc vh vs vl cl hs sm lg) (h0 : 0 ≤ wrap64 ((lg.length : Int) - 1)) (h1 : wrap64 ((lg.length : Int) - 1) < lg.length) (i : Int) (hi : rd lg (wrap64 ((lg.length : Int) - 1)) = i) (lg' : List Int) (hlg : lg.take (wrap64 ((lg.length : Int) - 1)).toNat = lg') :
    Calls Tryz.prog 77 #[.pointer (some ⟨g, 4, none⟩)] w fun e w' => e = .returned (.int .i64 i) ∧ Below base w w' ∧ ∃ vl', BdS w' base g T vc vh vs vl' cl hs sm lg' := by
  subst hi hlg
  exact pop_large hb h0 h1
theorem sort_calls {w : World} {base g : Nat} {T : Int} {vc vh vs vl : Value} {cl : List S96} {hs sm lg : List Int} (hb : BdS w base g T vc vh vs vl cl hs sm lg) (i : Int) (h0 : 0 ≤ i) (h1 : i < hs.length) (ls : sm.length < 17592186044416) (ll : lg.length < 17592186044416) (x : Int) (hx : rd hs i = x) (sm2 lg2 : List Int) (h2 : (if x < T then sm ++ [i] else sm) = sm2) (h3 : (if x < T then lg else lg ++ [i]) = lg2) :
    Calls Tryz.prog 46 #[.pointer (some ⟨g, 0, none⟩), .int .i64 i] w fun e w' => e = .returned (.tuple #[]) ∧ Below base w w' ∧ ∃ vs' vl', BdS w' base g T vc vh vs' vl' cl hs sm2 lg2 := by
  subst hx
  by_cases c : rd hs i < T
  · rw [if_pos c] at h2 h3
    subst h2 h3
    refine (sort_small hb i h0 h1 ls c).mono ?_
    rintro e w' ⟨h, hB, vs', hb'⟩
    exact ⟨h, hB, vs', vl, hb'⟩
  · rw [if_neg c] at h2 h3
    subst h2 h3
    refine (sort_large hb i h0 h1 ll c).mono ?_
    rintro e w' ⟨h, hB, vl', hb'⟩
    exact ⟨h, hB, vs, vl', hb'⟩
set_option maxHeartbeats 8000000 in
set_option maxRecDepth 100000 in
theorem pair_calls {w : World} {base g : Nat} {T : Int} {vc vh vs vl : Value} {cl : List S96} {hs sm lg : List Int} (hbd : BdS w base g T vc vh vs vl cl hs sm lg) (a0 : 0 ≤ wrap64 ((sm.length : Int) - 1)) (a1 : wrap64 ((sm.length : Int) - 1) < sm.length) (b0 : 0 ≤ wrap64 ((lg.length : Int) - 1)) (b1 : wrap64 ((lg.length : Int) - 1) < lg.length)
    (i k : Int) (hi : rd sm (wrap64 ((sm.length : Int) - 1)) = i) (hk : rd lg (wrap64 ((lg.length : Int) - 1)) = k) (sm' lg' : List Int) (hsm : sm.take (wrap64 ((sm.length : Int) - 1)).toNat = sm') (hlg : lg.take (wrap64 ((lg.length : Int) - 1)).toNat = lg')
    (i0 : 0 ≤ i) (i1 : i < hs.length) (i2 : i < cl.length) (k0 : 0 ≤ k) (k1 : k < hs.length) (x : Int) (hx : IntKind.u64.wrap (rd hs k - IntKind.u64.wrap (T - rd hs i)) = x) (ls : sm'.length < 17592186044416) (ll : lg'.length < 17592186044416) (sm2 lg2 : List Int) (h2 : (if x < T then sm' ++ [k] else sm') = sm2) (h3 : (if x < T then lg' else lg' ++ [k]) = lg2) :
    Calls Tryz.prog 47 #[.pointer (some ⟨g, 0, none⟩)] w fun e w' => e = .returned (.tuple #[]) ∧ Below base w w' ∧ ∃ vs' vl', BdS w' base g T vc vh vs' vl' (cl.set i.toNat ⟨rd hs i, k⟩) (hs.set k.toNat x) sm2 lg2 := by
  obtain ⟨gc, cc, rfl, _⟩ := Kd.R_form hbd.2.2.1 (by omega)
  obtain ⟨gh, ch, rfl, _⟩ := Kd.R_form hbd.2.2.2.1 (by omega)
  have hb0 := below_drew1 (Below.refl base w)
  replace hbd := hbd.drew
  have p1 := eq_true i0
  have q1 := eq_true i1
  have q2 := eq_true i2
  have p3 := eq_true k0
  have q3 := eq_true k1
  have H2 := Aside0.mk h2
  have H3 := Aside0.mk h3
  clear h2 h3
  go_enter Tryz.func47, Tryz.ntmps47
  try go_wp2
  refine start_ (n := 10) (S := fun w' => True) (ds := []) #[false, false, false, false, false, false, false, false, false, false] (by kernel_rfl) rfl rfl trivial (fun hHeld => ?_)
  generalize w.drew = wd at hbd hb0 ⊢
  refine qP 0 (some 4) (qt 10 1) ?_
  refine qP 1 (some 5) (qt 10 3) ?_
  refine qP 2 (some 6) (qt 10 7) ?_
  refine qP 4 (some 8) (qt 10 23) ?_
  refine qP 5 (some 9) (qt 10 55) ?_
  refine qP 6 (some 10) (qt 10 119) ?_
  refine one_ (i := 3) (N := some 7) (qt 10 127) rfl rfl (by kernel_rfl) (by decide) (fun K hK => ?_)
  refine goes_ Tryz.func77 (by kernel_rfl) rfl #[.pointer (some ⟨g, 3, none⟩)] (by rfl) rfl rfl (by simp only [List.map_toArray, List.map_cons, List.map_nil]; rfl) ?_
  with_reducible refine (pop_small' hbd a0 a1 i hi sm' hsm).mono ?_
  rintro e w3 ⟨rfl, hb1, vs1, hbd1⟩
  refine ⟨_, rfl, ?_⟩
  refine hK.out _ _ trivial (fun hHeld => ?_)
  clear hK K
  refine norm_ (a' := ?_) ?_ ?_
  rotate_left
  · show Act.put _ (some 7) _ = _
    simp only [Act.put, zA_, zB_, zC_, i64_w, i32_w]
    rfl
  refine one_ (i := 7) (N := some 11) (qt 10 255) rfl rfl (by kernel_rfl) (by decide) (fun K hK => ?_)
  refine goes_ Tryz.func77 (by kernel_rfl) rfl #[.pointer (some ⟨g, 4, none⟩)] (by rfl) rfl rfl (by simp only [List.map_toArray, List.map_cons, List.map_nil]; rfl) ?_
  with_reducible refine (pop_large' hbd1 b0 b1 k hk lg' hlg).mono ?_
  rintro e w4 ⟨rfl, hb2, vl1, hbd2⟩
  refine ⟨_, rfl, ?_⟩
  refine hK.out _ _ trivial (fun hHeld => ?_)
  clear hK K
  refine norm_ (a' := ?_) ?_ ?_
  rotate_left
  · show Act.put _ (some 11) _ = _
    simp only [Act.put, zA_, zB_, zC_, i64_w, i32_w]
    rfl
  refine qP 8 (some 2) (qt 10 511) ?_
  refine qP 9 (some 3) (qt 10 1023) ?_
  refine done_ (by kernel_rfl) ?_
  try go_wp2
  clear hHeld
  replace hbd2 := hbd2.drew
  replace hb2 := ((hb0.trans hb1).trans hb2).drew
  obtain ⟨⟨u0, hu0⟩, ⟨u1, hu1⟩, hf0, hf1, hbd3, hb3⟩ := hbd2.put i (rd hs i) k i0 i2
  refine start_ (n := 17) (S := fun w' => w'.cell? ⟨g, 1, none⟩ = some (.slice (some ⟨gc, 0, none⟩) cl.length cc) ∧ w'.cell? ⟨g, 2, none⟩ = some (.slice (some ⟨gh, 0, none⟩) hs.length ch) ∧ w'.cell? ⟨gh, i.toNat, none⟩ = some (.int .u64 (rd hs i))) (ds := [16]) #[false, false, false, false, false, false, false, false, false, false, false, false, false, false, false, false, false] (by kernel_rfl) rfl rfl ⟨hbd2.cells.2.1, hbd2.cells.2.2.1, hbd2.has i i0 i1⟩ (fun hHeld => ?_)
  generalize w4.drew = we at hbd2 hb2 hf0 hf1 hu0 hu1 hbd3 hb3 hHeld ⊢
  refine qP 0 (some 12) (qt 17 1) ?_
  refine qP 1 (some 13) (qt 17 3) ?_
  refine qP 2 (some 14) (qt 17 7) ?_
  refine qP 3 (some 15) (qt 17 15) ?_
  refine qP 5 (some 17) (qt 17 47) ?_
  refine qP 6 (some 18) (qt 17 111) ?_
  refine qP 7 (some 19) (qt 17 239) ?_
  refine qP 8 (some 20) (qt 17 495) ?_
  refine qP 10 (some 22) (qt 17 1519) ?_
  refine qP 13 (some 25) (qt 17 9711) ?_
  refine take_ (i := 4) (N := some 16) (v := ?_) (a' := ?_) (qt 17 9727) rfl rfl (by kernel_rfl) (fun _ _ _ h => h) (Or.inl ⟨by rfl, ?_⟩) hHeld ?_ ?_
  rotate_left
  · rintro w' ⟨s0, s1, s2⟩
    go_simp
    with_reducible rfl
  rotate_left
  · simp only [Act.put, zA_, zB_, zC_, i64_w, i32_w]
    rfl
  refine take_ (i := 9) (N := some 21) (v := ?_) (a' := ?_) (qt 17 10239) rfl rfl (by kernel_rfl) (fun _ _ _ h => h) (Or.inl ⟨by rfl, ?_⟩) hHeld ?_ ?_
  rotate_left
  · rintro w' ⟨s0, s1, s2⟩
    go_simp
    with_reducible rfl
  rotate_left
  · simp only [Act.put, zA_, zB_, zC_, i64_w, i32_w]
    rfl
  refine qP 11 (some 23) (qt 17 12287) ?_
  refine take_ (i := 12) (N := some 24) (v := ?_) (a' := ?_) (qt 17 16383) rfl rfl (by kernel_rfl) (fun _ _ _ h => h) (Or.inl ⟨by rfl, ?_⟩) hHeld ?_ ?_
  rotate_left
  · rintro w' ⟨s0, s1, s2⟩
    go_simp
    with_reducible rfl
  rotate_left
  · simp only [Act.put, zA_, zB_, zC_, i64_w, i32_w]
    rfl
  refine qP 14 (some 26) (qt 17 32767) ?_
  refine qP 15 (some 27) (qt 17 65535) ?_
  refine last_ (i := 16) (N := none) (qt 17 131071) rfl rfl (by kernel_rfl) (by decide) (fun K hK => ?_)
  refine skip_ (w1 := ?_) (by rfl) rfl ?_ ?_
  rotate_left
  · go_simp
    rfl
  refine hK.out _ _ ?_
  clear hK K
  refine done_ (by kernel_rfl) ?_
  try go_wp2
  clear hHeld hu0 hu1 hf0 hf1
  replace hb3 := hb2.trans hb3
  generalize (we.setCell ⟨gc, i.toNat * 2, none⟩ (.int .u64 (rd hs i))).setCell ⟨gc, i.toNat * 2 + 1, none⟩ (.int .i64 k) = wf at hbd3 hb3 ⊢
  clear hb2 hbd2 hbd1 hb1 hbd hb0
  replace hbd3 := hbd3.drew
  replace hb3 := hb3.drew
  have hcl : (cl.set i.toNat (⟨rd hs i, k⟩ : S96)).length = cl.length := List.length_set
  obtain ⟨hf, hbd4, hb4⟩ := hbd3.put_has k x k0 k1
  refine start_ (n := 23) (S := fun w' => w'.cell? ⟨g, 0, none⟩ = some (.int .u64 T) ∧ w'.cell? ⟨g, 2, none⟩ = some (.slice (some ⟨gh, 0, none⟩) hs.length ch) ∧ w'.cell? ⟨gh, k.toNat, none⟩ = some (.int .u64 (rd hs k)) ∧ w'.cell? ⟨gh, i.toNat, none⟩ = some (.int .u64 (rd hs i))) (ds := [22]) #[false, false, false, false, false, false, false, false, false, false, false, false, false, false, false, false, false, false, false, false, false, false, false] (by kernel_rfl) rfl rfl ⟨hbd3.cells.1, hbd3.cells.2.2.1, hbd3.has k k0 k1, hbd3.has i i0 i1⟩ (fun hHeld => ?_)
  generalize wf.drew = wg at hbd3 hf hbd4 hb3 hb4 hHeld ⊢
  refine qP 0 (some 28) (qt 23 1) ?_
  refine qP 1 (some 29) (qt 23 3) ?_
  refine qP 2 (some 30) (qt 23 7) ?_
  refine qP 4 (some 32) (qt 23 23) ?_
  refine qP 7 (some 35) (qt 23 151) ?_
  refine qP 8 (some 36) (qt 23 407) ?_
  refine qP 9 (some 37) (qt 23 919) ?_
  refine qP 10 (some 38) (qt 23 1943) ?_
  refine qP 12 (some 40) (qt 23 6039) ?_
  refine qP 13 (some 41) (qt 23 14231) ?_
  refine qP 14 (some 42) (qt 23 30615) ?_
  refine qP 16 (some 44) (qt 23 96151) ?_
  refine take_ (i := 3) (N := some 31) (v := ?_) (a' := ?_) (qt 23 96159) rfl rfl (by kernel_rfl) (fun _ _ _ h => h) (Or.inl ⟨by rfl, ?_⟩) hHeld ?_ ?_
  rotate_left
  · rintro w' ⟨s0, s1, s2, s3⟩
    go_simp
    with_reducible rfl
  rotate_left
  · simp only [Act.put, zA_, zB_, zC_, i64_w, i32_w]
    rfl
  refine qP 5 (some 33) (qt 23 96191) ?_
  refine take_ (i := 6) (N := some 34) (v := ?_) (a' := ?_) (qt 23 96255) rfl rfl (by kernel_rfl) (fun _ _ _ h => h) (Or.inl ⟨by rfl, ?_⟩) hHeld ?_ ?_
  rotate_left
  · rintro w' ⟨s0, s1, s2, s3⟩
    go_simp
    with_reducible rfl
  rotate_left
  · simp only [Act.put, zA_, zB_, zC_, i64_w, i32_w]
    rfl
  refine take_ (i := 11) (N := some 39) (v := ?_) (a' := ?_) (qt 23 98303) rfl rfl (by kernel_rfl) (fun _ _ _ h => h) (Or.inl ⟨by rfl, ?_⟩) hHeld ?_ ?_
  rotate_left
  · rintro w' ⟨s0, s1, s2, s3⟩
    go_simp
    with_reducible rfl
  rotate_left
  · simp only [Act.put, zA_, zB_, zC_, i64_w, i32_w]
    rfl
  refine take_ (i := 15) (N := some 43) (v := ?_) (a' := ?_) (qt 23 131071) rfl rfl (by kernel_rfl) (fun _ _ _ h => h) (Or.inl ⟨by rfl, ?_⟩) hHeld ?_ ?_
  rotate_left
  · rintro w' ⟨s0, s1, s2, s3⟩
    go_simp
    with_reducible rfl
  rotate_left
  · simp only [Act.put, zA_, zB_, zC_, i64_w, i32_w]
    rfl
  refine qP 17 (some 45) (qt 23 262143) ?_
  refine take_ (i := 18) (N := some 46) (v := ?_) (a' := ?_) (qt 23 524287) rfl rfl (by kernel_rfl) (fun _ _ _ h => h) (Or.inl ⟨by rfl, ?_⟩) hHeld ?_ ?_
  rotate_left
  · rintro w' ⟨s0, s1, s2, s3⟩
    go_simp
    with_reducible rfl
  rotate_left
  · simp only [Act.put, zA_, zB_, zC_, i64_w, i32_w]
    rfl
  refine qP 19 (some 47) (qt 23 1048575) ?_
  refine qP 20 (some 48) (qt 23 2097151) ?_
  refine qP 21 (some 49) (qt 23 4194303) ?_
  refine last_ (i := 22) (N := none) (qt 23 8388607) rfl rfl (by kernel_rfl) (by decide) (fun K hK => ?_)
  refine skip_ (w1 := ?_) (by rfl) rfl ?_ ?_
  rotate_left
  · go_simp
    rfl
  refine hK.out _ _ ?_
  clear hK K
  refine done_ (by kernel_rfl) ?_
  clear hHeld hf hbd3
  replace hb4 := hb3.trans hb4
  try rw [hx]
  have hrd : rd (hs.set k.toNat x) k = x := by
    unfold rd
    rw [List.getD_eq_getElem?_getD, List.getElem?_set_self (by omega)]
    rfl
  generalize wg.setCell ⟨gh, k.toNat, none⟩ (.int .u64 x) = wh at hbd4 hb4 ⊢
  clear hb3
  have hbd4' : BdS wh base g T (.slice (some ⟨gc, 0, none⟩) cl.length cc) (.slice (some ⟨gh, 0, none⟩) hs.length ch) vs1 vl1 (cl.set i.toNat ⟨rd hs i, k⟩) (hs.set k.toNat x) sm' lg' := hbd4
  go_wp2_with (first | ((with_reducible refine gate_callee (f := 46) rfl ?_); refine goesL_ (some 52) rfl rfl Tryz.func46 (by kernel_rfl) rfl #[.pointer (some ⟨g, 0, none⟩), .int .i64 k] rfl (by (try simp only [List.map_toArray, List.map_cons, List.map_nil]); first | done | rfl) ?_; (with_reducible refine (sort_calls hbd4' k k0 (by rw [List.length_set]; exact k1) ls ll x hrd sm2 lg2 H2.out H3.out).mono ?_); rintro e w7 ⟨rfl, hb7, vs', vl', hbd7⟩; refine ⟨_, rfl, ?_⟩))
  go_end0
  exact ⟨rfl, hb4.trans hb7, vs', vl', hbd7⟩
def alias_Build.l1 : Nat → Int → List Int → List S96 → List Int → List Int → Option (Int × (List (S96)) × Int)
  | 0, _, _, _, _, _ => none
  | k + 1, T, hs, cl, sm, lg => if 0 < (sm.length : Int) ∧ 0 < (lg.length : Int) then
      (if 0 ≤ wrap64 ((sm.length : Int) - 1) ∧ wrap64 ((sm.length : Int) - 1) < sm.length ∧ 0 ≤ wrap64 ((lg.length : Int) - 1) ∧ wrap64 ((lg.length : Int) - 1) < lg.length ∧
          0 ≤ rd sm (wrap64 ((sm.length : Int) - 1)) ∧ rd sm (wrap64 ((sm.length : Int) - 1)) < hs.length ∧ rd sm (wrap64 ((sm.length : Int) - 1)) < cl.length ∧ 0 ≤ rd lg (wrap64 ((lg.length : Int) - 1)) ∧ rd lg (wrap64 ((lg.length : Int) - 1)) < hs.length ∧ sm.length < 17592186044416 ∧ lg.length < 17592186044416 then
        alias_Build.l1 k T (hs.set (rd lg (wrap64 ((lg.length : Int) - 1))).toNat (IntKind.u64.wrap (rd hs (rd lg (wrap64 ((lg.length : Int) - 1))) - IntKind.u64.wrap (T - rd hs (rd sm (wrap64 ((sm.length : Int) - 1)))))))
          (cl.set (rd sm (wrap64 ((sm.length : Int) - 1))).toNat ⟨rd hs (rd sm (wrap64 ((sm.length : Int) - 1))), rd lg (wrap64 ((lg.length : Int) - 1))⟩)
          (if IntKind.u64.wrap (rd hs (rd lg (wrap64 ((lg.length : Int) - 1))) - IntKind.u64.wrap (T - rd hs (rd sm (wrap64 ((sm.length : Int) - 1))))) < T then sm.take (wrap64 ((sm.length : Int) - 1)).toNat ++ [rd lg (wrap64 ((lg.length : Int) - 1))] else sm.take (wrap64 ((sm.length : Int) - 1)).toNat)
          (if IntKind.u64.wrap (rd hs (rd lg (wrap64 ((lg.length : Int) - 1))) - IntKind.u64.wrap (T - rd hs (rd sm (wrap64 ((sm.length : Int) - 1))))) < T then lg.take (wrap64 ((lg.length : Int) - 1)).toNat else lg.take (wrap64 ((lg.length : Int) - 1)).toNat ++ [rd lg (wrap64 ((lg.length : Int) - 1))])
      else none) else some (T, cl, 0)
def alias_Build.l0 : Nat → List Int → Int → List Int → List S96 → List Int → List Int → Int → Option (Int × (List (S96)) × Int)
  | 0, _, _, _, _, _, _, _ => none
  | k + 1, l, T, hs, cl, sm, lg, i => if i < (l.length : Int) then
      (if 0 ≤ i ∧ i < hs.length ∧ cl.length < 1048576 ∧ sm.length < 17592186044416 ∧ lg.length < 17592186044416 then
        alias_Build.l0 k l T (hs.set i.toNat (IntKind.u64.wrap (rd l i * IntKind.u64.wrap (l.length : Int)))) (cl ++ [⟨T, i⟩])
          (if IntKind.u64.wrap (rd l i * IntKind.u64.wrap (l.length : Int)) < T then sm ++ [i] else sm) (if IntKind.u64.wrap (rd l i * IntKind.u64.wrap (l.length : Int)) < T then lg else lg ++ [i]) (wrap64 (i + 1))
      else none) else alias_Build.l1 k T hs cl sm lg
def alias_Build.f (k : Nat) (l0 : List Int) : Option (Int × (List (S96)) × Int) := (alias_total.f k l0).bind fun t => if t.2 = 0 then (if l0.length ≤ 1048576 then alias_Build.l0 k l0 t.1 (List.replicate ((l0.length : Int)).toNat 0) [] [] [] 0 else none) else some (0, ([] : List (S96)), t.2)
theorem alias_Build.l1_mono : ∀ k T hs cl sm lg, LeO (alias_Build.l1 k T hs cl sm lg) (alias_Build.l1 (k + 1) T hs cl sm lg)
  | 0, _, _, _, _, _ => fun r h => by simp [alias_Build.l1] at h
  | k + 1, _, _, _, _, _ => by
    unfold alias_Build.l1
    exact LeO.ite (LeO.ite (alias_Build.l1_mono k _ _ _ _ _) (LeO.none _)) (LeO.refl _)
theorem alias_Build.l0_mono : ∀ k l T hs cl sm lg i, LeO (alias_Build.l0 k l T hs cl sm lg i) (alias_Build.l0 (k + 1) l T hs cl sm lg i)
  | 0, _, _, _, _, _, _, _ => fun r h => by simp [alias_Build.l0] at h
  | k + 1, _, _, _, _, _, _, _ => by
    unfold alias_Build.l0
    exact LeO.ite (LeO.ite (alias_Build.l0_mono k _ _ _ _ _ _ _) (LeO.none _)) (alias_Build.l1_mono k _ _ _ _ _)
theorem alias_Build.mono : ∀ a0 k, LeO (alias_Build.f k a0) (alias_Build.f (k + 1) a0) := by
  intro a0 k
  unfold alias_Build.f
  exact LeO.bind (alias_total.mono _ _) (fun _ => LeO.ite (LeO.ite (alias_Build.l0_mono k _ _ _ _ _ _ _) (LeO.none _)) (LeO.refl _))
set_option maxHeartbeats 8000000 in
set_option maxRecDepth 100000 in
theorem alias_Build.bad (k : Nat) (A0 : Option Addr) (c0 : Nat) (l0 : List Int) (t1 t2 : Int) (w : World) (hr0 : Kd.C (Kd.int .u64) w A0 l0.length l0) (hc0 : l0.length ≤ c0) (h : alias_total.f k l0 = some (t1, t2)) (c : ¬ t2 = 0) :
    Calls Tryz.prog 12 #[.slice A0 l0.length c0] w fun e w' => ∃ v1_ : Value, e = .returned (.tuple #[.agg #[.int .u64 0, v1_], .int .i64 t2]) ∧ Kd.R k96 96 w' w.heap.size (fun _ => True) v1_ ([] : List S96) ∧ Below w.heap.size w w' := by
  have hu27 := Tryz.underlying30
  have HR0 := Aside0.mk hr0
  have HC0 := Aside0.mk hc0
  have A2 := Aside0.mk h
  clear hr0 hc0 h
  have HB := Aside0.mk (Below.refl w.heap.size w)
  have cb0 : (t2 == 0) = false := beq_eq_false_iff_ne.mpr c
  have cb1 : (t2 != 0) = true := bne_iff_ne.mpr c
  clear c
  go_enter Tryz.func12, Tryz.ntmps12
  try simp only [List.append]
  go_wp2_with (first | ((with_reducible refine qd 2 ?_); (try (refine gate_guard (by rfl) ?_; dsimp only)); refine box_event ?hg (N := 2) ?hd (cs := #[.int .u64 0, .slice none 0 0]) (t := 30) ?hr ?_; (case hd => rfl); (case hg => rfl); (case hr => first | (go_simp; done) | (go_simp; rfl)); intro gr hg w3 hbox hb; have n0_ := Aside0.mk (below_step (qs HB) hb); have BK := Aside0.mk hbox; have GE := Aside0.mk ((qe HB hg) : w.heap.size ≤ gr); clear HB; have HB := n0_; clear n0_ hb hbox hg) | ((with_reducible refine gate_callee (f := 45) rfl ?_); refine goesL_ (some 11) rfl rfl Tryz.func45 (by kernel_rfl) rfl #[.slice A0 l0.length c0] rfl ql ?_; (with_reducible refine (alias_total.calls k _ _ l0 t1 t2 _ ?side1 ?side2 A2.out).mono ?_); (case side1 => exact (Kd.C_below HR0.out (qs HB))); (case side2 => exact HC0.out); rintro e w' ⟨rfl, ⟨nd, rfl⟩⟩; refine ⟨_, rfl, ?_⟩; (try (rw [drewN_self w3]; generalize hq_ : World.drewN w3 _ = w3; replace BK := Aside0.mk (show w3.heap[gr]? = some (.cells #[.int .u64 0, .slice none 0 0] 30 (0, 0)) by rw [← hq_]; exact blk_drewN BK.out _); replace HB := Aside0.mk (show Below w.heap.size w w3 by rw [← hq_]; exact pw_below_drewN HB.out _); clear hq_)); have hcz0 : w3.cell? ⟨gr, 0, none⟩ = some (.int .u64 0) := (blk_cell BK.out 0).trans rfl; have hcz1 : w3.cell? ⟨gr, 1, none⟩ = some (.slice none 0 0) := (blk_cell BK.out 1).trans rfl; have hfz0 := blk_frozen BK.out 0; have hfz1 := blk_frozen BK.out 1))
  refine bodyPost_ret (results_ct rfl _ _ gr 30 #[.int .u64 0, .slice none 0 0] (0, 0) _ rfl (by (with_reducible repeat (first | refine blk_drewN ?_ _ | refine blk_drew ?_ | refine blk_alloc ?_ _)); refine blk_put (cs := #[.int .u64 0, .slice none 0 0]) ?_ 1 _ rfl; (with_reducible repeat (first | refine blk_drewN ?_ _ | refine blk_drew ?_ | refine blk_alloc ?_ _)); refine blk_put (cs := #[.int .u64 0, .slice none 0 0]) ?_ 0 _ rfl; (with_reducible repeat (first | refine blk_drewN ?_ _ | refine blk_drew ?_ | refine blk_alloc ?_ _)); exact BK.out) Tryz.underlying30 rfl (by first | (rw [Ar.cells_size]; kernel_rfl) | kernel_rfl)) rfl ?_
  exact ⟨_, rfl, Kd.R_nil _ _ _ _ _, by repeat (first | (with_reducible first | exact HB.out | apply below_alloc | apply pw_below_drewN | apply below_drew1 | refine below_set ?_ GE.out) | exact HB.out)⟩
theorem rd_set_self (hs : List Int) {i : Int} (x : Int) (h0 : 0 ≤ i) (h1 : i < hs.length) : rd (hs.set i.toNat x) i = x := by
  unfold rd
  rw [List.getD_eq_getElem?_getD, List.getElem?_set_self (by omega)]
  rfl
theorem BdS.app {w w1 w2 : World} {base g : Nat} {T : Int} {vc vh vs vl v1 : Value} {cl cl1 : List S96} {hs sm lg : List Int} (hb : BdS w base g T vc vh vs vl cl hs sm lg) (ho : Kd.R k96 96 w1 base (fun _ => True) v1 cl1) (hg1 : w.grownBy w1 vc.ownBlock) (hw : w2 = w1.setCell ⟨g, 1, none⟩ v1) : BdS w2 base g T v1 vh vs vl cl1 hs sm lg := by
  subst hw
  obtain ⟨hB, hg, hC, hH, hS, hL⟩ := hb
  have hB1 := blk_grown (g := g) hB hg1 (Kd.R_ne hC hB (by decide))
  have ty := Kd.R_typed hC
  refine ⟨by simpa using blk_set hB1 1 v1, hg, Kd.R_set ho hB1 (by decide) 1 _, Kd.R_set (Kd.R_over' hH ty (by decide) hg1) hB1 (by decide) 1 _, Kd.R_set (Kd.R_over' hS ty (by decide) hg1) hB1 (by decide) 1 _, Kd.R_set (Kd.R_over' hL ty (by decide) hg1) hB1 (by decide) 1 _⟩
theorem R_sl {α : Type} {d : Kd α} {e : Nat} {w : World} {base : Nat} {ok : Nat → Prop} {v : Value} {xs : List α} (h : d.R e w base ok v xs) : ∃ A n c, v = .slice A n c := by
  obtain ⟨A, c, rfl⟩ := Kd.R_slice h
  exact ⟨A, _, c, rfl⟩
theorem bd_start {w w1 : World} {base g : Nat} {vh : Value} {hs : List Int} (hb : w.heap[g]? = some (.cells #[.int .u64 0, .slice none 0 0, vh, .slice none 0 0, .slice none 0 0] 94 (0, 0))) (hg : base ≤ g) (hh : Kd.R (Kd.int .u64) 24 w base (fun _ => True) vh hs) (T : Int) (hw : w1 = w.setCell ⟨g, 0, none⟩ (.int .u64 T)) : BdS w1 base g T (.slice none 0 0) vh (.slice none 0 0) (.slice none 0 0) [] hs [] [] := by
  subst hw
  exact ⟨by simpa using blk_set hb 0 (.int .u64 T), hg, Kd.R_nil _ _ _ _ _, Kd.R_set hh hb (by decide) 0 _, Kd.R_nil _ _ _ _ _, Kd.R_nil _ _ _ _ _⟩
set_option maxHeartbeats 8000000 in
set_option maxRecDepth 100000 in
theorem alias_Build.good (k : Nat) (A0 : Option Addr) (c0 : Nat) (l0 : List Int) (T r1 : Int) (r2 : List S96) (r3 : Int) (w : World) (hr0 : Kd.C (Kd.int .u64) w A0 l0.length l0) (hc0 : l0.length ≤ c0) (h : alias_total.f k l0 = some (T, 0)) (cl : l0.length ≤ 1048576) (H : alias_Build.l0 k l0 T (List.replicate ((l0.length : Int)).toNat 0) [] [] [] 0 = some (r1, r2, r3)) :
    Calls Tryz.prog 12 #[.slice A0 l0.length c0] w fun e w' => ∃ v1_ : Value, e = .returned (.tuple #[.agg #[.int .u64 r1, v1_], .int .i64 r3]) ∧ Kd.R k96 96 w' w.heap.size (fun _ => True) v1_ r2 ∧ Below w.heap.size w w' := by
  have hu27 := Tryz.underlying30
  have hu62 := Tryz.underlying96
  have HR0 := Aside0.mk hr0
  have HC0 := Aside0.mk hc0
  have A2 := Aside0.mk h
  have CL := Aside0.mk cl
  have H' := Aside0.mk H
  have hl0 : decide (0 ≤ (l0.length : Int)) = true := decide_eq_true (Int.natCast_nonneg _)
  clear hr0 hc0 h cl H
  have HB := Aside0.mk (Below.refl w.heap.size w)
  go_enter Tryz.func12, Tryz.ntmps12
  try simp only [List.append]
  go_wp2_with (first | ((with_reducible refine qd 2 ?_); (try (refine gate_guard (by rfl) ?_; dsimp only)); refine box_event ?hg (N := 2) ?hd (cs := #[.int .u64 0, .slice none 0 0]) (t := 30) ?hr ?_; (case hd => rfl); (case hg => rfl); (case hr => first | (go_simp; done) | (go_simp; rfl)); intro gr hg w3 hbox hb; have n0_ := Aside0.mk (below_step (qs HB) hb); have BK := Aside0.mk hbox; have GE := Aside0.mk ((qe HB hg) : w.heap.size ≤ gr); clear HB; have HB := n0_; clear n0_ hb hbox hg) | ((with_reducible refine gate_callee (f := 45) rfl ?_); refine goesL_ (some 11) rfl rfl Tryz.func45 (by kernel_rfl) rfl #[.slice A0 l0.length c0] rfl ql ?_; (with_reducible refine (alias_total.calls k _ _ l0 T 0 _ ?side1 ?side2 A2.out).mono ?_); (case side1 => exact (Kd.C_below HR0.out (qs HB))); (case side2 => exact HC0.out); rintro e w' ⟨rfl, ⟨nd, rfl⟩⟩; refine ⟨_, rfl, ?_⟩; skip) | ((with_reducible refine qd 20 ?_); (try (refine gate_guard (by rfl) ?_; dsimp only)); refine Kd.R_make (Kd.int .u64) _ 24 rfl (N := 20) rfl 22 _ _ rfl (l0.length : Int) rfl rfl Tryz.underlying22 (.int .u64 0) 8 info24 rfl (by decide) (by omega) 0 (ok := fun _ => True) (okp := fun _ => True) rfl (fun _ hk => hk) trivial (Int.natCast_nonneg _) (by have := CL.out; omega) (Below.refl _ _) (Nat.le_refl _) ?_; intro vh w5 ho hb hg_ hnew_; clear hg_ hnew_; obtain ⟨Ah, nh, ch, rfl⟩ := R_sl ho; have HH := Aside0.mk (Kd.R_lower ho (Nat.le_of_eq (by rfl) : w3.heap.size ≤ _)); have HW := Aside0.mk (show Below w3.heap.size w3 w5 by first | exact hb | exact below_step (by repeat (first | exact Below.refl _ _ | apply pw_below_drewN | apply below_drew1)) hb); clear hb ho) | ((with_reducible refine qd 22 ?_); (try (refine gate_guard (by rfl) ?_; dsimp only)); refine box_event ?hg (N := 22) ?hd (cs := #[.int .u64 0, .slice none 0 0, .slice Ah nh ch, .slice none 0 0, .slice none 0 0]) (t := 94) ?hr ?_; (case hd => rfl); (case hg => rfl); (case hr => first | (go_simp; done) | (go_simp; rfl)); intro g hg w7 hbox hb; have BG := Aside0.mk hbox; have GG := Aside0.mk ((by rw [hg]; exact below_size HW.out) : w3.heap.size ≤ g); replace HH := Aside0.mk (Kd.R_below HH.out hb); replace HW := Aside0.mk (below_step HW.out hb); clear hb hbox hg; have hcg0 : w7.cell? ⟨g, 0, none⟩ = some (.int .u64 0) := (blk_cell BG.out 0).trans rfl; have hfg0 := blk_frozen BG.out 0) | ((with_reducible refine gate_store (t := 24) (p := 27) rfl ?_); refine store_event (t := 24) (p := 27) (v := ?vv) (w1 := (w7.setCell ⟨g, 0, none⟩ (.int .u64 T))) ?hg ?ho ?hn ?hr ?_; (case ho => rfl); (case hg => rfl); (case hn => rfl); (case hr => first | (go_simp; done) | (go_simp; rfl)); intro w8 hw; have BS := Aside0.mk (bd_start BG.out GG.out HH.out T hw); have n1_ := Aside0.mk (show Below w3.heap.size w3 w8 by rw [hw]; exact HW.out.setCell (p := ⟨g, 0, none⟩) GG.out _); clear HW; have HW := n1_; clear n1_ hw hcg0 hfg0 BG HH))
  go_loopg [30] k (fun kq v30 w' => ∃ (hs : List Int) (cl : List S96) (sm lg : List Int) (i : Int) (vc vs vl : Value), v30 = .int .i64 i ∧ Aside0 (alias_Build.l0 kq l0 T hs cl sm lg i = some (r1, r2, r3)) ∧ Aside0 (kq ≤ k) ∧ Aside0 (BdS w' w3.heap.size g T vc (.slice Ah nh ch) vs vl cl hs sm lg) ∧ Aside0 (Below w3.heap.size w3 w'))
  case atStart => exact ⟨_, _, _, _, _, _, _, _, rfl, H', ⟨Nat.le_refl _⟩, BS, HW⟩
  case round =>
    clear H' BS HW
    obtain ⟨hs, cl, sm, lg, i, vc, vs, vl, rfl, HA, HK1, BS, HW⟩ := hrel
    cases gk with
    | zero => exact absurd HA.out (by simp [alias_Build.l0])
    | succ k1 =>
      have H := HA.out
      clear HA
      simp only [alias_Build.l0] at H
      have HB2 := below_step HB.out HW.out
      by_cases c2 : i < (l0.length : Int)
      · rw [if_pos c2] at H
        by_cases c3 : 0 ≤ i ∧ i < (hs.length : Int) ∧ cl.length < 1048576 ∧ sm.length < 17592186044416 ∧ lg.length < 17592186044416
        · rw [if_pos c3] at H
          obtain ⟨i0, i1, lc, ls, ll⟩ := c3
          obtain ⟨gh, chh, ehh, _⟩ := Kd.R_form BS.out.2.2.2.1 (by omega)
          injection ehh with e1 e2 e3
          subst e1 e2 e3
          obtain ⟨x, hx⟩ : ∃ x, IntKind.u64.wrap (rd l0 i * IntKind.u64.wrap (l0.length : Int)) = x := ⟨_, rfl⟩
          rw [hx] at H
          obtain ⟨sm2, h2⟩ : ∃ z, (if x < T then sm ++ [i] else sm) = z := ⟨_, rfl⟩
          obtain ⟨lg2, h3⟩ : ∃ z, (if x < T then lg else lg ++ [i]) = z := ⟨_, rfl⟩
          rw [h2, h3] at H
          have H2 := Aside0.mk h2
          have H3 := Aside0.mk h3
          have H' := Aside0.mk H
          clear h2 h3 H
          obtain ⟨ad, rfl, hxe⟩ := Kd.at_int HR0.out i i0 c2
          replace hxe := (HB2.cell (World.block_lt_of_cell? w _ hxe)).trans hxe
          have p1 := eq_true i0
          have q1 := eq_true i1
          have q2 := eq_true c2
          have c2b : decide (i < (l0.length : Int)) = true := decide_eq_true c2
          have LS := Aside0.mk ls
          have LL := Aside0.mk ll
          have LC := Aside0.mk lc
          have I0 := Aside0.mk i0
          have I1 := Aside0.mk i1
          clear ls ll lc i0 i1 c2
          obtain ⟨hf, hbd4, hb4⟩ := BS.out.put_has i x I0.out I1.out
          have hc2 := BS.out.cells.2.2.1
          have hce := BS.out.has i I0.out I1.out
          replace hb4 := HW.out.trans hb4
          have HP := Aside0.mk (And.intro hbd4 hb4)
          clear hbd4 hb4 HW BS HB2
          obtain ⟨Ac, nc, cc, rfl⟩ := R_sl HP.out.1.2.2.1
          go_wp2_with (first | ((with_reducible refine gate_store (t := 24) (p := 45) rfl ?_); refine store_event (t := 24) (p := 45) (v := ?vv45) (w1 := (wr.setCell ⟨gh, i.toNat, none⟩ (.int .u64 x))) ?hg ?ho ?hn ?hr ?_; (case ho => rfl); (case hg => rfl); (case hn => rfl); (case hr => first | (go_simp; done) | (go_simp; rfl)); intro w9 hw; rw [← hw] at HP; clear hw hf hc2 hce hxe; have hc1 := HP.out.1.cells.2.1) | ((with_reducible refine gate_builtin (b := .append) (xs := #[.tmp 51, .tmp 55]) rfl ?_); (try (refine gate_guard (by rfl) ?_; dsimp only)); at_builtin; refine Kd.R_append k96 (w0 := w9) w3.heap.size rfl (.tmp 51) (.tmp 55) 28 96 (.agg #[.int .u64 0, .int .i64 0]) 16 rfl Tryz.underlying28 info96 rfl (by decide) (by omega) (.slice Ac nc cc) cl (⟨T, i⟩ : S96) [.int .u64 T, .int .i64 i] (fun _ => True) (fun _ => False) rfl rfl (k96_mkM _ _ _ (⟨T, i⟩ : S96)) (fun _ hk => hk.elim) (fun _ _ => trivial) HP.out.1.2.2.1 (Below.refl _ _) (Nat.le_trans HP.out.1.2.1 (Nat.le_of_lt (blk_lt HP.out.1.1))) (by have := LC.out; omega) ?_; intro v1 w10 ho hb hg1 hat; obtain ⟨A1, n1, c1, rfl⟩ := R_sl ho; have HN := Aside0.mk (And.intro ho hg1); have HL := Aside0.mk (HP.out.2.trans hb); have hB1 := blk_grown (g := g) HP.out.1.1 hg1 (Kd.R_ne HP.out.1.2.2.1 HP.out.1.1 (by decide)); clear hc1 ho hb hg1 hat; have hc1 := (blk_cell hB1 1).trans rfl; have hf1 := blk_frozen hB1 1) | ((with_reducible refine gate_store (t := 28) (p := 59) rfl ?_); refine store_event (t := 28) (p := 59) (v := ?vv59) (w1 := (w10.setCell ⟨g, 1, none⟩ (.slice A1 n1 c1))) ?hg ?ho ?hn ?hr ?_; (case ho => rfl); (case hg => rfl); (case hn => rfl); (case hr => first | (go_simp; done) | (go_simp; rfl)); intro w11 hw; have BS := Aside0.mk (HP.out.1.app HN.out.1 HN.out.2 hw); have HW := Aside0.mk (show Below w3.heap.size w3 w11 by rw [hw]; exact HL.out.setCell (p := ⟨g, 1, none⟩) GG.out _); clear hw hB1 hc1 hf1 HP HN HL; have hrd := rd_set_self hs x I0.out I1.out) | ((with_reducible refine gate_callee (f := 46) rfl ?_); refine goesL_ (some 62) rfl rfl Tryz.func46 (by kernel_rfl) rfl #[.pointer (some ⟨g, 0, none⟩), .int .i64 i] rfl ql ?_; (with_reducible refine (sort_calls BS.out i I0.out (by rw [List.length_set]; exact I1.out) LS.out LL.out x hrd sm2 lg2 H2.out H3.out).mono ?_); rintro e w12 ⟨rfl, hb7, vs', vl', hbd7⟩; refine ⟨_, rfl, ?_⟩; clear BS; have BS := Aside0.mk hbd7; replace HW := Aside0.mk (HW.out.trans hb7); clear hb7 hbd7 hrd))
          go_roundg k1
          case measure => have := HK1.out; omega
          case rel => exact ⟨_, _, _, _, _, _, _, _, rfl, H', ⟨by have := HK1.out; omega⟩, BS, HW⟩
        · rw [if_neg c3] at H
          exact absurd H (by simp)
      · rw [if_neg c2] at H
        have c2b : decide (i < (l0.length : Int)) = false := decide_eq_false c2
        have H' := Aside0.mk H
        clear H c2 HB2
        go_wp2
        go_loopg [] k1 (fun kq w' => ∃ (hs : List Int) (cl : List S96) (sm lg : List Int) (vc vs vl : Value), Aside0 (alias_Build.l1 kq T hs cl sm lg = some (r1, r2, r3)) ∧ Aside0 (kq ≤ k1) ∧ Aside0 (BdS w' w3.heap.size g T vc (.slice Ah nh ch) vs vl cl hs sm lg) ∧ Aside0 (Below w3.heap.size w3 w'))
        case atStart => exact ⟨_, _, _, _, _, _, _, H', ⟨Nat.le_refl _⟩, BS, HW⟩
        case round =>
          clear H' BS HW
          obtain ⟨hs, cl, sm, lg, vc, vs, vl, HA, HK2, BS, HW⟩ := hrel
          cases gk with
          | zero => exact absurd HA.out (by simp [alias_Build.l1])
          | succ k2 =>
            have H := HA.out
            clear HA
            simp only [alias_Build.l1] at H
            obtain ⟨As, cs, rfl⟩ := Kd.R_slice BS.out.2.2.2.2.1
            obtain ⟨Al, cl', rfl⟩ := Kd.R_slice BS.out.2.2.2.2.2
            obtain ⟨Ac, cc, rfl⟩ := Kd.R_slice BS.out.2.2.1
            have hc3 := BS.out.cells.2.2.2.1
            have hc4 := BS.out.cells.2.2.2.2
            by_cases c1 : 0 < (sm.length : Int)
            · have c1b : decide (0 < (sm.length : Int)) = true := decide_eq_true c1
              have c1n : decide (0 < sm.length) = true := decide_eq_true (by omega)
              by_cases c4 : 0 < (lg.length : Int)
              · rw [if_pos ⟨c1, c4⟩] at H
                have c4b : decide (0 < (lg.length : Int)) = true := decide_eq_true c4
                have c4n : decide (0 < lg.length) = true := decide_eq_true (by omega)
                by_cases c5 : 0 ≤ wrap64 ((sm.length : Int) - 1) ∧ wrap64 ((sm.length : Int) - 1) < sm.length ∧ 0 ≤ wrap64 ((lg.length : Int) - 1) ∧ wrap64 ((lg.length : Int) - 1) < lg.length ∧ 0 ≤ rd sm (wrap64 ((sm.length : Int) - 1)) ∧ rd sm (wrap64 ((sm.length : Int) - 1)) < hs.length ∧ rd sm (wrap64 ((sm.length : Int) - 1)) < cl.length ∧ 0 ≤ rd lg (wrap64 ((lg.length : Int) - 1)) ∧ rd lg (wrap64 ((lg.length : Int) - 1)) < hs.length ∧ sm.length < 17592186044416 ∧ lg.length < 17592186044416
                · rw [if_pos c5] at H
                  have H' := Aside0.mk H
                  have C5 := Aside0.mk c5
                  clear H c5 c1 c4
                  go_wp2_with (first | ((with_reducible refine gate_callee (f := 47) rfl ?_); refine goesL_ (some 79) rfl rfl Tryz.func47 (by kernel_rfl) rfl #[.pointer (some ⟨g, 0, none⟩)] rfl ql ?_; (with_reducible refine (pair_calls BS.out C5.out.1 C5.out.2.1 C5.out.2.2.1 C5.out.2.2.2.1 _ _ rfl rfl _ _ rfl rfl C5.out.2.2.2.2.1 C5.out.2.2.2.2.2.1 C5.out.2.2.2.2.2.2.1 C5.out.2.2.2.2.2.2.2.1 C5.out.2.2.2.2.2.2.2.2.1 _ rfl (by rw [List.length_take]; have := C5.out.2.2.2.2.2.2.2.2.2.1; omega) (by rw [List.length_take]; have := C5.out.2.2.2.2.2.2.2.2.2.2; omega) _ _ rfl rfl).mono ?_); rintro e w12 ⟨rfl, hb7, vs', vl', hbd7⟩; refine ⟨_, rfl, ?_⟩; clear BS; have BS := Aside0.mk hbd7; replace HW := Aside0.mk (HW.out.trans hb7); clear hb7 hbd7))
                  go_roundg k2
                  case measure => have := HK2.out; omega
                  case rel => exact ⟨_, _, _, _, _, _, _, H', ⟨by have := HK2.out; omega⟩, BS, HW⟩
                · rw [if_neg c5] at H
                  exact absurd H (by simp)
              · have c4b : decide (0 < (lg.length : Int)) = false := decide_eq_false c4
                have c4n : decide (0 < lg.length) = false := decide_eq_false (by omega)
                rw [if_neg (fun h => c4 h.2)] at H
                simp only [Option.some.injEq, Prod.mk.injEq] at H
                obtain ⟨rfl, rfl, rfl⟩ := H
                have hc0 := BS.out.cells.1
                have hc1 := BS.out.cells.2.1
                have BK2 := Aside0.mk (blk_below (g := gr) (o := .cells #[.int .u64 0, .slice none 0 0] 30 (0, 0)) BK.out HW.out)
                have hcz0 : wr.cell? ⟨gr, 0, none⟩ = some (.int .u64 0) := (blk_cell BK2.out 0).trans rfl
                have hcz1 : wr.cell? ⟨gr, 1, none⟩ = some (.slice none 0 0) := (blk_cell BK2.out 1).trans rfl
                have hfz0 := blk_frozen BK2.out 0
                have hfz1 := blk_frozen BK2.out 1
                have HR := Aside0.mk (Kd.R_lower BS.out.2.2.1 (below_size HB.out))
                have HB2 := Aside0.mk (below_step HB.out HW.out)
                clear c1 c4 BS HW
                go_wp2
                refine bodyPost_ret (results_ct rfl _ _ gr 30 #[.int .u64 T, .slice Ac cl.length cc] (0, 0) _ rfl (by (with_reducible repeat (first | refine blk_drewN ?_ _ | refine blk_drew ?_ | refine blk_alloc ?_ _)); refine blk_put (cs := #[.int .u64 T, .slice none 0 0]) ?_ 1 _ rfl; (with_reducible repeat (first | refine blk_drewN ?_ _ | refine blk_drew ?_ | refine blk_alloc ?_ _)); refine blk_put (cs := #[.int .u64 0, .slice none 0 0]) ?_ 0 _ rfl; (with_reducible repeat (first | refine blk_drewN ?_ _ | refine blk_drew ?_ | refine blk_alloc ?_ _)); exact BK2.out) Tryz.underlying30 rfl (by first | (rw [Ar.cells_size]; kernel_rfl) | kernel_rfl)) rfl ?_
                exact ⟨_, rfl, Kd.R_mono (Kd.R_far (p := ⟨gr, 1, none⟩) (Kd.R_far (p := ⟨gr, 0, none⟩) (Kd.R_types HR.out BK2.out (by decide)) (fun _ hk => hk.2) (.int .u64 T)) (fun _ hk => hk.2) (.slice Ac cl.length cc)) (fun _ hk => trivial), (HB2.out.setCell (p := ⟨gr, 0, none⟩) GE.out _).setCell (p := ⟨gr, 1, none⟩) GE.out _⟩
            · have c1b : decide (0 < (sm.length : Int)) = false := decide_eq_false c1
              have c1n : decide (0 < sm.length) = false := decide_eq_false (by omega)
              rw [if_neg (fun h => c1 h.1)] at H
              simp only [Option.some.injEq, Prod.mk.injEq] at H
              obtain ⟨rfl, rfl, rfl⟩ := H
              have hc0 := BS.out.cells.1
              have hc1 := BS.out.cells.2.1
              have BK2 := Aside0.mk (blk_below (g := gr) (o := .cells #[.int .u64 0, .slice none 0 0] 30 (0, 0)) BK.out HW.out)
              have hcz0 : wr.cell? ⟨gr, 0, none⟩ = some (.int .u64 0) := (blk_cell BK2.out 0).trans rfl
              have hcz1 : wr.cell? ⟨gr, 1, none⟩ = some (.slice none 0 0) := (blk_cell BK2.out 1).trans rfl
              have hfz0 := blk_frozen BK2.out 0
              have hfz1 := blk_frozen BK2.out 1
              have HR := Aside0.mk (Kd.R_lower BS.out.2.2.1 (below_size HB.out))
              have HB2 := Aside0.mk (below_step HB.out HW.out)
              clear c1 BS HW
              go_wp2
              refine bodyPost_ret (results_ct rfl _ _ gr 30 #[.int .u64 T, .slice Ac cl.length cc] (0, 0) _ rfl (by (with_reducible repeat (first | refine blk_drewN ?_ _ | refine blk_drew ?_ | refine blk_alloc ?_ _)); refine blk_put (cs := #[.int .u64 T, .slice none 0 0]) ?_ 1 _ rfl; (with_reducible repeat (first | refine blk_drewN ?_ _ | refine blk_drew ?_ | refine blk_alloc ?_ _)); refine blk_put (cs := #[.int .u64 0, .slice none 0 0]) ?_ 0 _ rfl; (with_reducible repeat (first | refine blk_drewN ?_ _ | refine blk_drew ?_ | refine blk_alloc ?_ _)); exact BK2.out) Tryz.underlying30 rfl (by first | (rw [Ar.cells_size]; kernel_rfl) | kernel_rfl)) rfl ?_
              exact ⟨_, rfl, Kd.R_mono (Kd.R_far (p := ⟨gr, 1, none⟩) (Kd.R_far (p := ⟨gr, 0, none⟩) (Kd.R_types HR.out BK2.out (by decide)) (fun _ hk => hk.2) (.int .u64 T)) (fun _ hk => hk.2) (.slice Ac cl.length cc)) (fun _ hk => trivial), (HB2.out.setCell (p := ⟨gr, 0, none⟩) GE.out _).setCell (p := ⟨gr, 1, none⟩) GE.out _⟩
theorem alias_Build.calls (k : Nat) (A0 : Option Addr) (c0 : Nat) (l0 : List Int) (r1 : Int) (r2 : List (S96)) (r3 : Int) (w : World) (hr0 : Kd.C (Kd.int .u64) w A0 l0.length l0) (hc0 : l0.length ≤ c0) (h : alias_Build.f k l0 = some (r1, r2, r3)) :
    Calls Tryz.prog 12 #[.slice A0 l0.length c0] w fun e w' => ∃ v1_ : Value, e = .returned (.tuple #[.agg #[.int .u64 r1, v1_], .int .i64 r3]) ∧ Kd.R k96 96 w' w.heap.size (fun _ => True) v1_ r2 ∧ Below w.heap.size w w' := by
  unfold alias_Build.f at h
  obtain ⟨⟨t1, t2⟩, A2, H⟩ := Option.bind_eq_some_iff.mp h
  replace H : (if t2 = 0 then (if l0.length ≤ 1048576 then alias_Build.l0 k l0 t1 (List.replicate ((l0.length : Int)).toNat 0) [] [] [] 0 else none) else some (0, ([] : List (S96)), t2)) = some (r1, r2, r3) := H
  by_cases c : t2 = 0
  · subst c
    rw [if_pos rfl] at H
    by_cases cl : l0.length ≤ 1048576
    · rw [if_pos cl] at H
      exact alias_Build.good k A0 c0 l0 t1 r1 r2 r3 w hr0 hc0 A2 cl H
    · rw [if_neg cl] at H
      exact absurd H (by simp)
  · rw [if_neg c] at H
    simp only [Option.some.injEq, Prod.mk.injEq] at H
    obtain ⟨rfl, rfl, rfl⟩ := H
    exact alias_Build.bad k A0 c0 l0 t1 t2 w hr0 hc0 A2 c
end Go.Proofs.YtekmngghebpciaaGreat.PW
end
section
namespace Go.Proofs.YtekmngghebpciaaGreat.PW
open Go.RowKit Go.Proofs.YtekmngghebpciaaGreatW.PrintWords Go.Proofs.YtekmngghebpciaaGreatW.PrintLast Go.Proofs.YtekmngghebpciaaGreatW.PrintMore
attribute [local go_sem] max2_int min2_int max_two min_two max_three min_three max_four min_four
set_option linter.unusedVariables false
set_option linter.unusedSimpArgs false
def IsS30 (w0 W : World) (g : Nat) (f0 : Int) (f1 : List (S96)) : Prop := ∃ A1 c1, W.heap[g]? = some (.cells #[.int .u64 f0, .slice A1 f1.length c1] 30 (0, 0)) ∧ w0.heap.size ≤ g ∧ Kd.C k96 w0 A1 f1.length f1
theorem IsS30.grown {w0 W : World} {g : Nat} {f0 : Int} {f1 : List (S96)} {W1 : World} {row : Option Nat} (h : IsS30 w0 W g f0 f1) (hw : W.grownBy W1 row) (hne : some g ≠ row) : IsS30 w0 W1 g f0 f1 := by
 obtain ⟨A1, c1, hb, hg, hr1⟩ := h
 exact ⟨A1, c1, blk_grown hb hw hne, hg, hr1⟩
theorem IsS30.kept {w0 W : World} {g : Nat} {f0 : Int} {f1 : List (S96)} {W1 : World} {S : Nat → Prop} (h : IsS30 w0 W g f0 f1) (hk : Kept W W1 S) (hne : ¬ S g) : IsS30 w0 W1 g f0 f1 := by
 obtain ⟨A1, c1, hb, hg, hr1⟩ := h
 exact ⟨A1, c1, blk_kept hb hk hne, hg, hr1⟩
theorem IsS30.below {w0 W : World} {g : Nat} {f0 : Int} {f1 : List (S96)} {W1 : World} (h : IsS30 w0 W g f0 f1) (hw : Below W.heap.size W W1) : IsS30 w0 W1 g f0 f1 := h.grown (grown_of_below hw none) (by simp)
theorem IsS30.alloc {w0 W : World} {g : Nat} {f0 : Int} {f1 : List (S96)} (h : IsS30 w0 W g f0 f1) (o : Obj) : IsS30 w0 (W.alloc o) g f0 f1 := h.below (below_alloc (Below.refl _ _) o)
theorem IsS30.drewN {w0 W : World} {g : Nat} {f0 : Int} {f1 : List (S96)} (h : IsS30 w0 W g f0 f1) (m : Nat) : IsS30 w0 (W.drewN m) g f0 f1 := h
theorem IsS30.drew {w0 W : World} {g : Nat} {f0 : Int} {f1 : List (S96)} (h : IsS30 w0 W g f0 f1) : IsS30 w0 W.drew g f0 f1 := h
theorem IsS30.at_ {w0 W : World} {g : Nat} {f0 : Int} {f1 : List (S96)} {w' : World} {m : Nat} (hq : W.drewN m = w') (h : IsS30 w0 W g f0 f1) : IsS30 w0 w' g f0 f1 := by subst hq; exact IsS30.drewN h m
theorem IsS30.apart {w0 W : World} {g : Nat} {f0 : Int} {f1 : List (S96)} {α : Type} {d : Kd α} {e : Nat} {base : Nat} {ok : Nat → Prop} {v : Value} {xs : List α} (h : IsS30 w0 W g f0 f1) (ho : d.R e W base ok v xs) (ht : ∀ q, q ∈ e :: d.E → q ≠ 30) : d.R e W base (fun k => ok k ∧ k ≠ g) v xs := by
 obtain ⟨A1, c1, hb, hg, hr1⟩ := h
 exact Kd.R_types ho hb ht
theorem IsS30.own_ne {w0 W : World} {g : Nat} {f0 : Int} {f1 : List (S96)} {α : Type} {d : Kd α} {e : Nat} {base : Nat} {ok : Nat → Prop} {v : Value} {xs : List α} (h : IsS30 w0 W g f0 f1) (ho : d.R e W base ok v xs) (ht : e ≠ 30) : some g ≠ v.ownBlock := by
 obtain ⟨A1, c1, hb, hg, hr1⟩ := h
 exact Kd.R_ne ho hb ht
theorem IsS30.lt {w0 W : World} {g : Nat} {f0 : Int} {f1 : List (S96)} (h : IsS30 w0 W g f0 f1) : g < W.heap.size := by
 obtain ⟨A1, c1, hb, hg, hr1⟩ := h
 exact blk_lt hb
theorem IsS30.ge {w0 W : World} {g : Nat} {f0 : Int} {f1 : List (S96)} (h : IsS30 w0 W g f0 f1) : w0.heap.size ≤ g := by
 obtain ⟨A1, c1, hb, hg, hr1⟩ := h
 exact hg
theorem IsS30.far {w0 W : World} {g : Nat} {f0 : Int} {f1 : List (S96)} {p : Addr} (h : IsS30 w0 W g f0 f1) (hne : g ≠ p.block) (u : Value) : IsS30 w0 (W.setCell p u) g f0 f1 := by
 obtain ⟨A1, c1, hb, hg, hr1⟩ := h
 exact ⟨A1, c1, blk_far hb hne u, hg, hr1⟩
theorem cellS30_0 {W : World} {g : Nat} {A1 : Option Addr} {c1 : Nat} {f0 : Int} {f1 : List (S96)} (h : W.heap[g]? = some (.cells #[.int .u64 f0, .slice A1 f1.length c1] 30 (0, 0))) : W.cell? ⟨g, 0, none⟩ = some (.int .u64 f0) := (blk_cell h 0).trans rfl
theorem IsS30.set_0 {w0 W : World} {g : Nat} {f0 : Int} {f1 : List (S96)} (h : IsS30 w0 W g f0 f1) (x : Int) : IsS30 w0 (W.setCell ⟨g, 0, none⟩ (.int .u64 x)) g x f1 := by
 obtain ⟨A1, c1, hb, hg, hr1⟩ := h
 exact ⟨A1, c1, by simpa using blk_set hb 0 (.int .u64 x), hg, hr1⟩
theorem cellS30_1 {W : World} {g : Nat} {A1 : Option Addr} {c1 : Nat} {f0 : Int} {f1 : List (S96)} (h : W.heap[g]? = some (.cells #[.int .u64 f0, .slice A1 f1.length c1] 30 (0, 0))) : W.cell? ⟨g, 1, none⟩ = some (.slice A1 f1.length c1) := (blk_cell h 1).trans rfl
def alias_Right_1.f (a0_0 : Int) (a0_1 : Int) (s1_0 : Int) (s1_1 : List (S96)) : Option (Bool × Int) := if a0_0 > s1_0 then (some (true, s1_0)) else (if a0_1 < 0 then (some (true, s1_0)) else (some (decide (a0_1 ≥ (s1_1.length : Int)), s1_0)))
set_option maxHeartbeats 8000000 in
set_option maxRecDepth 100000 in
theorem alias_Right_1.calls (a0_0 : Int) (a0_1 : Int) (g : Nat) (s1_0 : Int) (s1_1 : List (S96)) (r1 : Bool) (r2 : Int) (w0 w : World) (hI : IsS30 w0 w g s1_0 s1_1) (hB : Below w0.heap.size w0 w) (h : alias_Right_1.f a0_0 a0_1 s1_0 s1_1 = some (r1, r2)) :
  Calls Tryz.prog 79 #[.agg #[.int .u64 a0_0, .int .i64 a0_1], .pointer (some ⟨g, 0, none⟩)] w fun e w' => e = .returned (.bool r1) ∧ IsS30 w0 w' g r2 s1_1 ∧ Below w0.heap.size w0 w' ∧ KeepBut w w' g none := by
 have hu96 := Tryz.underlying96
 have HI1 := Aside0.mk hI
 have HK := Aside0.mk (KeepBut.refl w g none)
 have HL := Aside0.mk hB.size
 clear hI
 have HW0 := Aside0.mk hB.size
 have HB := Aside0.mk hB
 clear hB
 have H : (if a0_0 > s1_0 then (some (true, s1_0)) else (if a0_1 < 0 then (some (true, s1_0)) else (some (decide (a0_1 ≥ (s1_1.length : Int)), s1_0)))) = some (r1, r2) := h
 clear h
 by_cases c3 : a0_0 > s1_0
 ·rw [if_pos c3] at H
  have c3b0 : decide (s1_0 < a0_0) = true := decide_eq_true c3
  clear c3
  simp only [Option.some.injEq, Prod.mk.injEq] at H
  obtain ⟨rfl, rfl⟩ := H
  go_enter Tryz.func79, Tryz.ntmps79
  go_wp2_with (first | ((with_reducible refine qd 2 ?_); (try (refine gate_guard (by rfl) ?_; dsimp only)); refine box_event ?hg (N := 2) ?hd (cs := #[.int .u64 a0_0, .int .i64 a0_1]) (t := 96) ?hr ?_; (case hd => rfl); (case hg => rfl); (case hr => first | (go_simp; done) | (go_simp; rfl)); intro gb358 hg w4 hbox hb; replace HB := Aside0.mk (below_step (by repeat (first | (with_reducible first | exact HB.out | apply below_alloc | apply pw_below_drewN | apply below_drew1 | refine below_set ?_ (IsS30.ge HI1.out)) | exact HB.out)) hb); have BK358 := Aside0.mk (hbox); have GW358 := Aside0.mk ((by rw [hg]; exact (keep_size (w := w) (g := g) (row := none) (by repeat (first | (with_reducible first | exact HK.out | apply KeepBut.set_ | apply keep_drewN | apply keep_drew | apply keep_alloc) | exact HK.out))) : w.heap.size ≤ gb358)); have GE358 := Aside0.mk ((Nat.le_trans HW0.out (by rw [hg]; exact (keep_size (w := w) (g := g) (row := none) (by repeat (first | (with_reducible first | exact HK.out | apply KeepBut.set_ | apply keep_drewN | apply keep_drew | apply keep_alloc) | exact HK.out))) : w.heap.size ≤ gb358) : w0.heap.size ≤ gb358)); replace HK := Aside0.mk (KeepBut.trans (by repeat (first | (with_reducible first | exact HK.out | apply KeepBut.set_ | apply keep_drewN | apply keep_drew | apply keep_alloc) | exact HK.out)) (KeepBut.of_below hb g none) (.inl rfl)); have NB1_358 := Aside0.mk ((by rw [hg]; exact Nat.ne_of_lt (IsS30.lt (show IsS30 w0 _ g s1_0 s1_1 from by repeat (first | (with_reducible first | exact HI1.out | apply IsS30.alloc | apply IsS30.drewN | apply IsS30.drew | apply IsS30.set_0) | exact HI1.out))) : g ≠ gb358)); have NB358_1 := Aside0.mk ((by rw [hg]; exact Nat.ne_of_gt (IsS30.lt (show IsS30 w0 _ g s1_0 s1_1 from by repeat (first | (with_reducible first | exact HI1.out | apply IsS30.alloc | apply IsS30.drewN | apply IsS30.drew | apply IsS30.set_0) | exact HI1.out))) : gb358 ≠ g)); replace HI1 := Aside0.mk (IsS30.below (by repeat (first | (with_reducible first | exact HI1.out | apply IsS30.alloc | apply IsS30.drewN | apply IsS30.drew | apply IsS30.set_0) | exact HI1.out)) hb); clear hb hbox hg; have hnb5 := NB358_1.out; have hnc5 := NB1_358.out; have hcz6_0 : w4.cell? ⟨gb358, 0, none⟩ = some (.int .u64 a0_0) := (blk_cell BK358.out 0).trans rfl; have hcz6_1 : w4.cell? ⟨gb358, 1, none⟩ = some (.int .i64 a0_1) := (blk_cell BK358.out 1).trans rfl; have hfz6_0 := blk_frozen BK358.out 0; have hfz6_1 := blk_frozen BK358.out 1; obtain ⟨ASz7_1, cSz7_1, HGz7, hgz7, HSz7_1⟩ := HI1.out; have hcz7_0 := cellS30_0 HGz7; have hcz7_1 := cellS30_1 HGz7; have hfz7_0 := blk_frozen HGz7 0; clear HGz7 hgz7))
  go_ret
  exact ⟨by first | rfl | (simp [errW_none, errW_some] <;> rfl) | (simp [*, errW_none, errW_some] <;> rfl), by repeat (first | (with_reducible first | exact HI1.out | apply IsS30.alloc | apply IsS30.drewN | apply IsS30.drew | apply IsS30.set_0 | refine IsS30.far ?_ NB1_358.out _) | exact HI1.out), by repeat (first | (with_reducible first | exact HB.out | apply below_alloc | apply pw_below_drewN | apply below_drew1 | refine below_set ?_ (IsS30.ge HI1.out) | refine below_set ?_ GE358.out) | exact HB.out), by repeat (first | (with_reducible first | exact HK.out | apply KeepBut.set_ | apply keep_drewN | apply keep_drew | apply keep_alloc | refine keep_far ?_ GW358.out _) | exact HK.out)⟩
 ·rw [if_neg c3] at H
  have c3b0 : decide (s1_0 < a0_0) = false := decide_eq_false c3
  clear c3
  by_cases c8 : a0_1 < 0
  ·rw [if_pos c8] at H
   have c8b0 : decide (a0_1 < 0) = true := decide_eq_true c8
   clear c8
   simp only [Option.some.injEq, Prod.mk.injEq] at H
   obtain ⟨rfl, rfl⟩ := H
   go_enter Tryz.func79, Tryz.ntmps79
   go_wp2_with (first | ((with_reducible refine qd 2 ?_); (try (refine gate_guard (by rfl) ?_; dsimp only)); refine box_event ?hg (N := 2) ?hd (cs := #[.int .u64 a0_0, .int .i64 a0_1]) (t := 96) ?hr ?_; (case hd => rfl); (case hg => rfl); (case hr => first | (go_simp; done) | (go_simp; rfl)); intro gb358 hg w9 hbox hb; replace HB := Aside0.mk (below_step (by repeat (first | (with_reducible first | exact HB.out | apply below_alloc | apply pw_below_drewN | apply below_drew1 | refine below_set ?_ (IsS30.ge HI1.out)) | exact HB.out)) hb); have BK358 := Aside0.mk (hbox); have GW358 := Aside0.mk ((by rw [hg]; exact (keep_size (w := w) (g := g) (row := none) (by repeat (first | (with_reducible first | exact HK.out | apply KeepBut.set_ | apply keep_drewN | apply keep_drew | apply keep_alloc) | exact HK.out))) : w.heap.size ≤ gb358)); have GE358 := Aside0.mk ((Nat.le_trans HW0.out (by rw [hg]; exact (keep_size (w := w) (g := g) (row := none) (by repeat (first | (with_reducible first | exact HK.out | apply KeepBut.set_ | apply keep_drewN | apply keep_drew | apply keep_alloc) | exact HK.out))) : w.heap.size ≤ gb358) : w0.heap.size ≤ gb358)); replace HK := Aside0.mk (KeepBut.trans (by repeat (first | (with_reducible first | exact HK.out | apply KeepBut.set_ | apply keep_drewN | apply keep_drew | apply keep_alloc) | exact HK.out)) (KeepBut.of_below hb g none) (.inl rfl)); have NB1_358 := Aside0.mk ((by rw [hg]; exact Nat.ne_of_lt (IsS30.lt (show IsS30 w0 _ g s1_0 s1_1 from by repeat (first | (with_reducible first | exact HI1.out | apply IsS30.alloc | apply IsS30.drewN | apply IsS30.drew | apply IsS30.set_0) | exact HI1.out))) : g ≠ gb358)); have NB358_1 := Aside0.mk ((by rw [hg]; exact Nat.ne_of_gt (IsS30.lt (show IsS30 w0 _ g s1_0 s1_1 from by repeat (first | (with_reducible first | exact HI1.out | apply IsS30.alloc | apply IsS30.drewN | apply IsS30.drew | apply IsS30.set_0) | exact HI1.out))) : gb358 ≠ g)); replace HI1 := Aside0.mk (IsS30.below (by repeat (first | (with_reducible first | exact HI1.out | apply IsS30.alloc | apply IsS30.drewN | apply IsS30.drew | apply IsS30.set_0) | exact HI1.out)) hb); clear hb hbox hg; have hnb10 := NB358_1.out; have hnc10 := NB1_358.out; have hcz11_0 : w9.cell? ⟨gb358, 0, none⟩ = some (.int .u64 a0_0) := (blk_cell BK358.out 0).trans rfl; have hcz11_1 : w9.cell? ⟨gb358, 1, none⟩ = some (.int .i64 a0_1) := (blk_cell BK358.out 1).trans rfl; have hfz11_0 := blk_frozen BK358.out 0; have hfz11_1 := blk_frozen BK358.out 1; obtain ⟨ASz12_1, cSz12_1, HGz12, hgz12, HSz12_1⟩ := HI1.out; have hcz12_0 := cellS30_0 HGz12; have hcz12_1 := cellS30_1 HGz12; have hfz12_0 := blk_frozen HGz12 0; clear HGz12 hgz12))
   go_ret
   exact ⟨by first | rfl | (simp [errW_none, errW_some] <;> rfl) | (simp [*, errW_none, errW_some] <;> rfl), by repeat (first | (with_reducible first | exact HI1.out | apply IsS30.alloc | apply IsS30.drewN | apply IsS30.drew | apply IsS30.set_0 | refine IsS30.far ?_ NB1_358.out _) | exact HI1.out), by repeat (first | (with_reducible first | exact HB.out | apply below_alloc | apply pw_below_drewN | apply below_drew1 | refine below_set ?_ (IsS30.ge HI1.out) | refine below_set ?_ GE358.out) | exact HB.out), by repeat (first | (with_reducible first | exact HK.out | apply KeepBut.set_ | apply keep_drewN | apply keep_drew | apply keep_alloc | refine keep_far ?_ GW358.out _) | exact HK.out)⟩
  ·rw [if_neg c8] at H
   have c8b0 : decide (a0_1 < 0) = false := decide_eq_false c8
   clear c8
   simp only [Option.some.injEq, Prod.mk.injEq] at H
   obtain ⟨rfl, rfl⟩ := H
   go_enter Tryz.func79, Tryz.ntmps79
   go_wp2_with (first | ((with_reducible refine qd 2 ?_); (try (refine gate_guard (by rfl) ?_; dsimp only)); refine box_event ?hg (N := 2) ?hd (cs := #[.int .u64 a0_0, .int .i64 a0_1]) (t := 96) ?hr ?_; (case hd => rfl); (case hg => rfl); (case hr => first | (go_simp; done) | (go_simp; rfl)); intro gb358 hg w13 hbox hb; replace HB := Aside0.mk (below_step (by repeat (first | (with_reducible first | exact HB.out | apply below_alloc | apply pw_below_drewN | apply below_drew1 | refine below_set ?_ (IsS30.ge HI1.out)) | exact HB.out)) hb); have BK358 := Aside0.mk (hbox); have GW358 := Aside0.mk ((by rw [hg]; exact (keep_size (w := w) (g := g) (row := none) (by repeat (first | (with_reducible first | exact HK.out | apply KeepBut.set_ | apply keep_drewN | apply keep_drew | apply keep_alloc) | exact HK.out))) : w.heap.size ≤ gb358)); have GE358 := Aside0.mk ((Nat.le_trans HW0.out (by rw [hg]; exact (keep_size (w := w) (g := g) (row := none) (by repeat (first | (with_reducible first | exact HK.out | apply KeepBut.set_ | apply keep_drewN | apply keep_drew | apply keep_alloc) | exact HK.out))) : w.heap.size ≤ gb358) : w0.heap.size ≤ gb358)); replace HK := Aside0.mk (KeepBut.trans (by repeat (first | (with_reducible first | exact HK.out | apply KeepBut.set_ | apply keep_drewN | apply keep_drew | apply keep_alloc) | exact HK.out)) (KeepBut.of_below hb g none) (.inl rfl)); have NB1_358 := Aside0.mk ((by rw [hg]; exact Nat.ne_of_lt (IsS30.lt (show IsS30 w0 _ g s1_0 s1_1 from by repeat (first | (with_reducible first | exact HI1.out | apply IsS30.alloc | apply IsS30.drewN | apply IsS30.drew | apply IsS30.set_0) | exact HI1.out))) : g ≠ gb358)); have NB358_1 := Aside0.mk ((by rw [hg]; exact Nat.ne_of_gt (IsS30.lt (show IsS30 w0 _ g s1_0 s1_1 from by repeat (first | (with_reducible first | exact HI1.out | apply IsS30.alloc | apply IsS30.drewN | apply IsS30.drew | apply IsS30.set_0) | exact HI1.out))) : gb358 ≠ g)); replace HI1 := Aside0.mk (IsS30.below (by repeat (first | (with_reducible first | exact HI1.out | apply IsS30.alloc | apply IsS30.drewN | apply IsS30.drew | apply IsS30.set_0) | exact HI1.out)) hb); clear hb hbox hg; have hnb14 := NB358_1.out; have hnc14 := NB1_358.out; have hcz15_0 : w13.cell? ⟨gb358, 0, none⟩ = some (.int .u64 a0_0) := (blk_cell BK358.out 0).trans rfl; have hcz15_1 : w13.cell? ⟨gb358, 1, none⟩ = some (.int .i64 a0_1) := (blk_cell BK358.out 1).trans rfl; have hfz15_0 := blk_frozen BK358.out 0; have hfz15_1 := blk_frozen BK358.out 1; obtain ⟨ASz16_1, cSz16_1, HGz16, hgz16, HSz16_1⟩ := HI1.out; have hcz16_0 := cellS30_0 HGz16; have hcz16_1 := cellS30_1 HGz16; have hfz16_0 := blk_frozen HGz16 0; clear HGz16 hgz16))
   go_ret
   exact ⟨by first | rfl | (simp [errW_none, errW_some] <;> rfl) | (simp [*, errW_none, errW_some] <;> rfl), by repeat (first | (with_reducible first | exact HI1.out | apply IsS30.alloc | apply IsS30.drewN | apply IsS30.drew | apply IsS30.set_0 | refine IsS30.far ?_ NB1_358.out _) | exact HI1.out), by repeat (first | (with_reducible first | exact HB.out | apply below_alloc | apply pw_below_drewN | apply below_drew1 | refine below_set ?_ (IsS30.ge HI1.out) | refine below_set ?_ GE358.out) | exact HB.out), by repeat (first | (with_reducible first | exact HK.out | apply KeepBut.set_ | apply keep_drewN | apply keep_drew | apply keep_alloc | refine keep_far ?_ GW358.out _) | exact HK.out)⟩
def alias_Right_bad (T n : Int) (c : S96) : Bool := decide (c.f0 > T) || decide (c.f1 < 0) || decide (c.f1 ≥ n)
def alias_Right_idx : Nat → List S96 → Int → Int → Int → Option Int
  | 0, _, _, _, _ => none
  | k + 1, l, T, n, x => if x < (l.length : Int) then (if 0 ≤ x then (if alias_Right_bad T n (rd_T96 l x) = true then some x else alias_Right_idx k l T n (wrap64 (x + 1))) else none) else some (-1)
theorem alias_Right_one (T : Int) (cs : List S96) (c : S96) : alias_Right_1.f c.f0 c.f1 T cs = some (alias_Right_bad T cs.length c, T) := by
  unfold alias_Right_1.f alias_Right_bad
  by_cases h : c.f0 > T
  · rw [if_pos h]; simp [h]
  · rw [if_neg h]
    by_cases g : c.f1 < 0
    · rw [if_pos g]; simp [g]
    · rw [if_neg g]; simp [h, g]
theorem alias_Right_idx_mono : ∀ k l T n x, LeO (alias_Right_idx k l T n x) (alias_Right_idx (k + 1) l T n x)
  | 0, _, _, _, _ => fun r h => by simp [alias_Right_idx] at h
  | k + 1, l, T, n, x => by
    unfold alias_Right_idx
    exact LeO.ite (LeO.ite (LeO.ite (LeO.refl _) (alias_Right_idx_mono k l T n _)) (LeO.none _)) (LeO.refl _)
set_option maxHeartbeats 8000000 in
set_option maxRecDepth 100000 in
theorem alias_Right_idx_calls (k : Nat) (A0 : Option Addr) (c0 : Nat) (l0 : List S96) (g : Nat) (T : Int) (cs : List S96) (r : Int) (w0 w : World) (hI : IsS30 w0 w g T cs) (hB : Below w0.heap.size w0 w) (hr0 : Kd.C k96 w0 A0 l0.length l0) (hc0 : l0.length ≤ c0) (h : alias_Right_idx k l0 T cs.length 0 = some r) :
    Calls Tryz.prog 104 #[.slice A0 l0.length c0, .func (.func 79) #[] #[.pointer (some ⟨g, 0, none⟩)]] w fun e w' => e = .returned (.int .i64 r) ∧ IsS30 w0 w' g T cs ∧ Below w0.heap.size w0 w' := by
  have hu62 := Tryz.underlying96
  have HR0 := Aside0.mk hr0
  have HC0 := Aside0.mk hc0
  have HI := Aside0.mk hI
  have HB := Aside0.mk hB
  clear hr0 hc0 hI hB
  have H' := Aside0.mk h
  clear h
  go_enter Tryz.func104, Tryz.ntmps104
  go_wp2
  go_loopg [8] k (fun kq v8 w' => ∃ (x8_1 : Int), v8 = .int .i64 x8_1 ∧ Aside0 (alias_Right_idx kq l0 T cs.length x8_1 = some r) ∧ Aside0 (kq ≤ k) ∧ Aside0 (IsS30 w0 w' g T cs) ∧ Aside0 (Below w0.heap.size w0 w'))
  case atStart => exact ⟨(0), (by first | rfl | (simp; done) | (simp [*]; done)), H', ⟨Nat.le_refl _⟩, HI, HB⟩
  case round =>
    clear H' HI HB
    obtain ⟨x8_1, rfl, HA, HK1, HI, HB⟩ := hrel
    cases gk with
    | zero => exact absurd HA.out (by simp [alias_Right_idx])
    | succ k1 =>
      have H := HA.out
      clear HA
      simp only [alias_Right_idx] at H
      by_cases c2 : x8_1 < (l0.length : Int)
      · rw [if_pos c2] at H
        have c2b0 : decide (x8_1 < (l0.length : Int)) = true := decide_eq_true c2
        by_cases c3 : 0 ≤ x8_1
        · rw [if_pos c3] at H
          have c3b0 : decide (0 ≤ x8_1) = true := decide_eq_true c3
          have A5 := Aside0.mk (alias_Right_one T cs (rd_T96 l0 x8_1))
          obtain ⟨ad127, e127, hx0, hx1⟩ := at_T96 HR0.out x8_1 c3 c2
          cases e127
          replace hx0 := (HB.out.cell (World.block_lt_of_cell? w0 _ hx0)).trans hx0
          replace hx1 := (HB.out.cell (World.block_lt_of_cell? w0 _ hx1)).trans hx1
          have p127 := eq_true c3
          have q127 := eq_true c2
          clear c2 c3
          generalize hb : alias_Right_bad T cs.length (rd_T96 l0 x8_1) = b at H A5
          clear hb
          cases b with
          | true =>
            rw [if_pos rfl] at H
            obtain rfl := Option.some.inj H
            go_wp2_with (first | ((with_reducible refine gate_calleeT (j := 11) rfl ?_); refine goesT_ (some 16) rfl rfl Tryz.func79 (by kernel_rfl) rfl #[.agg #[.int .u64 (rd_T96 l0 x8_1).f0, .int .i64 (rd_T96 l0 x8_1).f1], .pointer (some ⟨g, 0, none⟩)] rfl rfl ql ?_; (with_reducible refine (alias_Right_1.calls (rd_T96 l0 x8_1).f0 (rd_T96 l0 x8_1).f1 g T cs true T w0 _ HI.out HB.out A5.out).mono ?_); rintro e w7 ⟨rfl, hi_, hb_, hk_⟩; refine ⟨_, rfl, ?_⟩; clear HI HB; have HI := Aside0.mk hi_; have HB := Aside0.mk hb_; clear hi_ hb_ hk_))
            go_ret
            exact ⟨by first | rfl | (simp; done), HI.out, HB.out⟩
          | false =>
            rw [if_neg (by decide)] at H
            have H' := Aside0.mk H
            clear H
            go_wp2_with (first | ((with_reducible refine gate_calleeT (j := 11) rfl ?_); refine goesT_ (some 16) rfl rfl Tryz.func79 (by kernel_rfl) rfl #[.agg #[.int .u64 (rd_T96 l0 x8_1).f0, .int .i64 (rd_T96 l0 x8_1).f1], .pointer (some ⟨g, 0, none⟩)] rfl rfl ql ?_; (with_reducible refine (alias_Right_1.calls (rd_T96 l0 x8_1).f0 (rd_T96 l0 x8_1).f1 g T cs false T w0 _ HI.out HB.out A5.out).mono ?_); rintro e w7 ⟨rfl, hi_, hb_, hk_⟩; refine ⟨_, rfl, ?_⟩; clear HI HB; have HI := Aside0.mk hi_; have HB := Aside0.mk hb_; clear hi_ hb_ hk_))
            go_roundg k1
            case measure => have := HK1.out; omega
            case rel => exact ⟨(wrap64 (x8_1 + 1)), (by first | rfl | (simp; done) | (simp [*]; done)), H', ⟨by have := HK1.out; omega⟩, HI, HB⟩
        · rw [if_neg c3] at H
          exact absurd H (by simp)
      · rw [if_neg c2] at H
        have c2b0 : decide (x8_1 < (l0.length : Int)) = false := decide_eq_false c2
        clear c2
        obtain rfl := Option.some.inj H
        go_wp2
        go_ret
        exact ⟨by first | rfl | (simp; done), HI.out, HB.out⟩
set_option maxHeartbeats 8000000 in
set_option maxRecDepth 100000 in
theorem alias_Right_con_calls (k : Nat) (A0 : Option Addr) (c0 : Nat) (l0 : List S96) (g : Nat) (T : Int) (cs : List S96) (r : Int) (w0 w : World) (hI : IsS30 w0 w g T cs) (hB : Below w0.heap.size w0 w) (hr0 : Kd.C k96 w0 A0 l0.length l0) (hc0 : l0.length ≤ c0) (h : alias_Right_idx k l0 T cs.length 0 = some r) :
    Calls Tryz.prog 78 #[.slice A0 l0.length c0, .func (.func 79) #[] #[.pointer (some ⟨g, 0, none⟩)]] w fun e w' => e = .returned (.bool (decide (r ≥ 0))) ∧ IsS30 w0 w' g T cs ∧ Below w0.heap.size w0 w' := by
  have HR0 := Aside0.mk hr0
  have HC0 := Aside0.mk hc0
  have HI := Aside0.mk hI
  have HB := Aside0.mk hB
  clear hr0 hc0 hI hB
  have A2 := Aside0.mk h
  clear h
  go_enter Tryz.func78, Tryz.ntmps78
  go_wp2_with (first | ((with_reducible refine gate_callee (f := 104) rfl ?_); refine goesL_ (some 7) rfl rfl Tryz.func104 (by kernel_rfl) rfl #[.slice A0 l0.length c0, .func (.func 79) #[] #[.pointer (some ⟨g, 0, none⟩)]] rfl ql ?_; (with_reducible refine (alias_Right_idx_calls k A0 c0 l0 g T cs r w0 _ HI.out HB.out HR0.out HC0.out A2.out).mono ?_); rintro e w3 ⟨rfl, hi_, hb_⟩; refine ⟨_, rfl, ?_⟩; clear HI HB; have HI := Aside0.mk hi_; have HB := Aside0.mk hb_; clear hi_ hb_))
  go_ret
  exact ⟨by first | rfl | (simp; done), HI.out, HB.out⟩
theorem alias_Right_is {w0 W : World} {g : Nat} {f0 : Int} {f1 : List S96} {A1 : Option Addr} {c1 : Nat} (hb : W.heap[g]? = some (.cells #[.int .u64 f0, .slice A1 f1.length c1] 30 (0, 0))) (hg : w0.heap.size ≤ g) (hr : Kd.C k96 w0 A1 f1.length f1) : IsS30 w0 W g f0 f1 := ⟨A1, c1, hb, hg, hr⟩
def alias_Right.f (k : Nat) (a0_0 : Int) (l0_1 : List S96) : Option Bool := (safe_Mul.f (IntKind.u64.wrap ((l0_1.length : Int))) a0_0).bind fun t => if t.2 = true then (if (l0_1.length : Int) = 0 then some false else (if a0_0 = 0 then some false else ((alias_Right_idx k l0_1 a0_0 l0_1.length 0).bind fun r => some (!decide (r ≥ 0))))) else some false
theorem alias_Right.mono : ∀ a0 a1 k, LeO (alias_Right.f k a0 a1) (alias_Right.f (k + 1) a0 a1) := by
  intro a0 a1 k
  unfold alias_Right.f
  exact LeO.bind (LeO.refl _) (fun _ => LeO.ite (LeO.ite (LeO.refl _) (LeO.ite (LeO.refl _) (LeO.bind (alias_Right_idx_mono _ _ _ _ _) (fun _ => LeO.refl _)))) (LeO.refl _))
set_option maxHeartbeats 8000000 in
set_option maxRecDepth 100000 in
theorem alias_Right.calls (k : Nat) (a0_0 : Int) (A0_1 : Option Addr) (c0_1 : Nat) (l0_1 : List S96) (r : Bool) (w : World) (hr0 : Kd.C k96 w A0_1 l0_1.length l0_1) (hc0 : l0_1.length ≤ c0_1) (h : alias_Right.f k a0_0 l0_1 = some r) :
    Calls Tryz.prog 48 #[.agg #[.int .u64 a0_0, .slice A0_1 l0_1.length c0_1]] w fun e w' => e = .returned (.bool r) ∧ Below w.heap.size w w' := by
  have hu27 := Tryz.underlying30
  have hu62 := Tryz.underlying96
  have HR0 := Aside0.mk hr0
  have HC0 := Aside0.mk hc0
  clear hr0 hc0
  have HB := Aside0.mk (Below.refl w.heap.size w)
  unfold alias_Right.f at h
  replace h := Option.bind_eq_some_iff.mp h
  obtain ⟨⟨t1, t2⟩, A2, H⟩ := h
  have A2 := Aside0.mk A2
  replace H : (if t2 = true then (if (l0_1.length : Int) = 0 then some false else (if a0_0 = 0 then some false else ((alias_Right_idx k l0_1 a0_0 l0_1.length 0).bind fun r => some (!decide (r ≥ 0))))) else some false) = some r := H
  cases t2 with
  | false =>
    · rw [if_neg (by decide)] at H
      obtain rfl := Option.some.inj H
      go_enter Tryz.func48, Tryz.ntmps48
      go_wp2_with (first | ((with_reducible refine qd 1 ?_); (try (refine gate_guard (by rfl) ?_; dsimp only)); refine box_event ?hg (N := 1) ?hd (cs := #[.int .u64 a0_0, .slice A0_1 l0_1.length c0_1]) (t := 30) ?hr ?_; (case hd => rfl); (case hg => rfl); (case hr => first | (go_simp; done) | (go_simp; rfl)); intro gb hg w4 hbox hb; have n0_ := Aside0.mk (below_step (qs HB) hb); have BK := Aside0.mk hbox; have GE := Aside0.mk ((qe HB hg) : w.heap.size ≤ gb); clear HB; have HB := n0_; clear n0_ hb hbox hg; have hcz5_0 : w4.cell? ⟨gb, 0, none⟩ = some (.int .u64 a0_0) := (blk_cell BK.out 0).trans rfl; have hcz5_1 : w4.cell? ⟨gb, 1, none⟩ = some (.slice A0_1 l0_1.length c0_1) := (blk_cell BK.out 1).trans rfl; have hfz5_0 := blk_frozen BK.out 0; have hfz5_1 := blk_frozen BK.out 1) | ((with_reducible refine gate_callee (f := 76) rfl ?_); refine goesL_ (some 12) rfl rfl Tryz.func76 (by kernel_rfl) rfl #[.int .u64 (IntKind.u64.wrap ((l0_1.length : Int))), .int .u64 a0_0] rfl ql ?_; (with_reducible refine (safe_Mul.calls (IntKind.u64.wrap ((l0_1.length : Int))) a0_0 t1 false _ A2.out).mono ?_); rintro e w' ⟨rfl, ⟨nd, rfl⟩⟩; refine ⟨_, rfl, ?_⟩))
      go_ret
      exact ⟨by first | rfl | (simp; done), (qs HB)⟩
  | true =>
    rw [if_pos rfl] at H
    by_cases c1 : (l0_1.length : Int) = 0
    · rw [if_pos c1] at H
      obtain rfl := Option.some.inj H
      have c1b : ((l0_1.length : Int) == 0) = true := beq_iff_eq.mpr c1
      clear c1; go_enter Tryz.func48, Tryz.ntmps48
      go_wp2_with (first | ((with_reducible refine qd 1 ?_); (try (refine gate_guard (by rfl) ?_; dsimp only)); refine box_event ?hg (N := 1) ?hd (cs := #[.int .u64 a0_0, .slice A0_1 l0_1.length c0_1]) (t := 30) ?hr ?_; (case hd => rfl); (case hg => rfl); (case hr => first | (go_simp; done) | (go_simp; rfl)); intro gb hg w4 hbox hb; have n0_ := Aside0.mk (below_step (qs HB) hb); have BK := Aside0.mk hbox; have GE := Aside0.mk ((qe HB hg) : w.heap.size ≤ gb); clear HB; have HB := n0_; clear n0_ hb hbox hg; have hcz5_0 : w4.cell? ⟨gb, 0, none⟩ = some (.int .u64 a0_0) := (blk_cell BK.out 0).trans rfl; have hcz5_1 : w4.cell? ⟨gb, 1, none⟩ = some (.slice A0_1 l0_1.length c0_1) := (blk_cell BK.out 1).trans rfl; have hfz5_0 := blk_frozen BK.out 0; have hfz5_1 := blk_frozen BK.out 1) | ((with_reducible refine gate_callee (f := 76) rfl ?_); refine goesL_ (some 12) rfl rfl Tryz.func76 (by kernel_rfl) rfl #[.int .u64 (IntKind.u64.wrap ((l0_1.length : Int))), .int .u64 a0_0] rfl ql ?_; (with_reducible refine (safe_Mul.calls (IntKind.u64.wrap ((l0_1.length : Int))) a0_0 t1 true _ A2.out).mono ?_); rintro e w' ⟨rfl, ⟨nd, rfl⟩⟩; refine ⟨_, rfl, ?_⟩))
      go_ret
      exact ⟨by first | rfl | (simp; done), (qs HB)⟩
    · rw [if_neg c1] at H
      have c1b : ((l0_1.length : Int) == 0) = false := beq_eq_false_iff_ne.mpr c1
      by_cases c2 : a0_0 = 0
      · rw [if_pos c2] at H
        obtain rfl := Option.some.inj H
        have c2b : (a0_0 == 0) = true := beq_iff_eq.mpr c2
        clear c1 c2; go_enter Tryz.func48, Tryz.ntmps48
        go_wp2_with (first | ((with_reducible refine qd 1 ?_); (try (refine gate_guard (by rfl) ?_; dsimp only)); refine box_event ?hg (N := 1) ?hd (cs := #[.int .u64 a0_0, .slice A0_1 l0_1.length c0_1]) (t := 30) ?hr ?_; (case hd => rfl); (case hg => rfl); (case hr => first | (go_simp; done) | (go_simp; rfl)); intro gb hg w4 hbox hb; have n0_ := Aside0.mk (below_step (qs HB) hb); have BK := Aside0.mk hbox; have GE := Aside0.mk ((qe HB hg) : w.heap.size ≤ gb); clear HB; have HB := n0_; clear n0_ hb hbox hg; have hcz5_0 : w4.cell? ⟨gb, 0, none⟩ = some (.int .u64 a0_0) := (blk_cell BK.out 0).trans rfl; have hcz5_1 : w4.cell? ⟨gb, 1, none⟩ = some (.slice A0_1 l0_1.length c0_1) := (blk_cell BK.out 1).trans rfl; have hfz5_0 := blk_frozen BK.out 0; have hfz5_1 := blk_frozen BK.out 1) | ((with_reducible refine gate_callee (f := 76) rfl ?_); refine goesL_ (some 12) rfl rfl Tryz.func76 (by kernel_rfl) rfl #[.int .u64 (IntKind.u64.wrap ((l0_1.length : Int))), .int .u64 a0_0] rfl ql ?_; (with_reducible refine (safe_Mul.calls (IntKind.u64.wrap ((l0_1.length : Int))) a0_0 t1 true _ A2.out).mono ?_); rintro e w' ⟨rfl, ⟨nd, rfl⟩⟩; refine ⟨_, rfl, ?_⟩))
        go_ret
        exact ⟨by first | rfl | (simp; done), (qs HB)⟩
      · rw [if_neg c2] at H
        have c2b : (a0_0 == 0) = false := beq_eq_false_iff_ne.mpr c2
        replace H := Option.bind_eq_some_iff.mp H
        obtain ⟨t3, A3, H⟩ := H
        have A3 := Aside0.mk A3
        obtain rfl := Option.some.inj H
        clear c1 c2; go_enter Tryz.func48, Tryz.ntmps48
        go_wp2_with (first | ((with_reducible refine qd 1 ?_); (try (refine gate_guard (by rfl) ?_; dsimp only)); refine box_event ?hg (N := 1) ?hd (cs := #[.int .u64 a0_0, .slice A0_1 l0_1.length c0_1]) (t := 30) ?hr ?_; (case hd => rfl); (case hg => rfl); (case hr => first | (go_simp; done) | (go_simp; rfl)); intro gb hg w4 hbox hb; have n0_ := Aside0.mk (below_step (qs HB) hb); have BK := Aside0.mk hbox; have GE := Aside0.mk ((qe HB hg) : w.heap.size ≤ gb); clear HB; have HB := n0_; clear n0_ hb hbox hg; have hcz5_0 : w4.cell? ⟨gb, 0, none⟩ = some (.int .u64 a0_0) := (blk_cell BK.out 0).trans rfl; have hcz5_1 : w4.cell? ⟨gb, 1, none⟩ = some (.slice A0_1 l0_1.length c0_1) := (blk_cell BK.out 1).trans rfl; have hfz5_0 := blk_frozen BK.out 0; have hfz5_1 := blk_frozen BK.out 1) | ((with_reducible refine gate_callee (f := 76) rfl ?_); refine goesL_ (some 12) rfl rfl Tryz.func76 (by kernel_rfl) rfl #[.int .u64 (IntKind.u64.wrap ((l0_1.length : Int))), .int .u64 a0_0] rfl ql ?_; (with_reducible refine (safe_Mul.calls (IntKind.u64.wrap ((l0_1.length : Int))) a0_0 t1 true _ A2.out).mono ?_); rintro e w' ⟨rfl, ⟨nd, rfl⟩⟩; refine ⟨_, rfl, ?_⟩) | ((with_reducible refine gate_callee (f := 78) rfl ?_); refine goesL_ (some 31) rfl rfl Tryz.func78 (by kernel_rfl) rfl #[.slice A0_1 l0_1.length c0_1, .func (.func 79) #[] #[.pointer (some ⟨gb, 0, none⟩)]] rfl ql ?_; (with_reducible refine (alias_Right_con_calls k A0_1 c0_1 l0_1 gb a0_0 l0_1 t3 w _ (alias_Right_is (qb BK) GE.out HR0.out) (qs HB) HR0.out HC0.out A3.out).mono ?_); rintro e w3 ⟨rfl, _, hb_⟩; refine ⟨_, rfl, ?_⟩; clear HB; have HB := Aside0.mk hb_; clear hb_))
        go_ret
        exact ⟨by first | rfl | (simp; done), (qs HB)⟩
def alias_Size.f (k : Nat) (a0_0 : Int) (l0_1 : List (S96)) : Option (Int) := (alias_Right.f k a0_0 l0_1).bind fun t360 => (if t360 = true then (some (IntKind.u64.wrap ((IntKind.u64.wrap ((l0_1.length : Int))) * a0_0))) else (some 0))
theorem alias_Size.mono : ∀ a0 a1 k, LeO (alias_Size.f k a0 a1) (alias_Size.f (k + 1) a0 a1) := by
 intro a0 a1 k
 unfold alias_Size.f
 repeat' first
   | (with_reducible exact alias_Right.mono _ _ _)
   | (with_reducible exact LeO.refl _)
   | (with_reducible exact LeO.none _)
   | (with_reducible refine LeO.ite ?_ ?_)
   | (with_reducible refine LeO.bind ?_ (fun _ => ?_))
   | exact alias_Right.mono _ _ _
   | exact LeO.none _
   | refine LeO.ite ?_ ?_
   | refine LeO.bind ?_ (fun _ => ?_)
set_option maxHeartbeats 8000000 in
set_option maxRecDepth 100000 in
theorem alias_Size.calls (k : Nat) (a0_0 : Int) (A0_1 : Option Addr) (c0_1 : Nat) (l0_1 : List (S96)) (r : Int) (w : World) (hr0_1 : Kd.C k96 w A0_1 l0_1.length l0_1) (hc0_1 : l0_1.length ≤ c0_1) (h : alias_Size.f k a0_0 l0_1 = some r) :
  Calls Tryz.prog 49 #[.agg #[.int .u64 a0_0, .slice A0_1 l0_1.length c0_1]] w fun e w' => e = .returned (.int .u64 r) ∧ Below w.heap.size w w' := by
 have hu30 := Tryz.underlying30
 have HR0_1 := Aside0.mk hr0_1
 have HC0_1 := Aside0.mk hc0_1
 clear hr0_1 hc0_1
 have HB := Aside0.mk (Below.refl w.heap.size w)
 have H : ((alias_Right.f k a0_0 l0_1).bind fun t360 => (if t360 = true then (some (IntKind.u64.wrap ((IntKind.u64.wrap ((l0_1.length : Int))) * a0_0))) else (some 0))) = some r := h
 clear h
 replace H := Option.bind_eq_some_iff.mp H
 obtain ⟨t360, A20, H⟩ := H
 try dsimp only at H
 have A2 := Aside0.mk A20
 clear A20
 by_cases c3 : t360 = true
 ·subst c3
  have H1 : (some (IntKind.u64.wrap ((IntKind.u64.wrap ((l0_1.length : Int))) * a0_0))) = some r := by rw [if_pos rfl] at H; exact H
  clear H
  have H := H1
  clear H1
  obtain rfl := Option.some.inj H
  go_enter Tryz.func49, Tryz.ntmps49
  go_wp2_with (first | ((with_reducible refine qd 1 ?_); refine box_event ?hg (N := 1) ?hd (cs := #[.int .u64 a0_0, .slice A0_1 l0_1.length c0_1]) (t := 30) ?hr ?_; (case hd => rfl); (case hg => rfl); (case hr => first | (go_simp; done) | (go_simp; rfl)); intro gb359 hg w4 hbox hb; have BK359 := Aside0.mk (hbox); have GW359 := Aside0.mk (qe HB hg); have GE359 := Aside0.mk (qe HB hg); replace HB := Aside0.mk (below_step (qs HB) hb); clear hb hbox hg; have hcz5_0 : w4.cell? ⟨gb359, 0, none⟩ = some (.int .u64 a0_0) := (blk_cell BK359.out 0).trans rfl; have hcz5_1 : w4.cell? ⟨gb359, 1, none⟩ = some (.slice A0_1 l0_1.length c0_1) := (blk_cell BK359.out 1).trans rfl; have hfz5_0 := blk_frozen BK359.out 0; have hfz5_1 := blk_frozen BK359.out 1) | ((with_reducible refine gate_callee (f := 48) rfl ?_); refine goesL_ (some 4) rfl rfl Tryz.func48 (by kernel_rfl) rfl #[.agg #[.int .u64 a0_0, .slice A0_1 l0_1.length c0_1]] rfl ql ?_; (with_reducible refine (alias_Right.calls k a0_0 _ _ l0_1 true _ ?side1 ?side2 A2.out).mono ?_); (case side1 => repeat (first | exact (Kd.C_below HR0_1.out HB.out) | (with_reducible refine Kd.C_alloc ?_ _) | (with_reducible refine Kd.C_drewN ?_ _) | (with_reducible refine Kd.C_drew ?_))); (case side2 => exact HC0_1.out); rintro e w6 ⟨rfl, hb⟩; refine ⟨_, rfl, ?_⟩; replace BK359 := Aside0.mk (qB BK359 hb); replace HB := Aside0.mk (below_step (qs HB) hb); (try clear hb); (try clear hb2); (try clear hk); (try clear hi); have hcz7_0 : w6.cell? ⟨gb359, 0, none⟩ = some (.int .u64 a0_0) := (blk_cell BK359.out 0).trans rfl; have hcz7_1 : w6.cell? ⟨gb359, 1, none⟩ = some (.slice A0_1 l0_1.length c0_1) := (blk_cell BK359.out 1).trans rfl; have hfz7_0 := blk_frozen BK359.out 0; have hfz7_1 := blk_frozen BK359.out 1))
  go_ret
  exact ⟨by first | rfl | (simp [errW_none, errW_some] <;> rfl) | (simp [*, errW_none, errW_some] <;> rfl), (qs HB)⟩
 ·replace c3 := Bool.eq_false_iff.mpr c3
  subst c3
  have H1 : (some 0) = some r := by rw [if_neg (show ¬ (false = true) by decide)] at H; exact H
  clear H
  have H := H1
  clear H1
  obtain rfl := Option.some.inj H
  go_enter Tryz.func49, Tryz.ntmps49
  go_wp2_with (first | ((with_reducible refine qd 1 ?_); refine box_event ?hg (N := 1) ?hd (cs := #[.int .u64 a0_0, .slice A0_1 l0_1.length c0_1]) (t := 30) ?hr ?_; (case hd => rfl); (case hg => rfl); (case hr => first | (go_simp; done) | (go_simp; rfl)); intro gb359 hg w8 hbox hb; have BK359 := Aside0.mk (hbox); have GW359 := Aside0.mk (qe HB hg); have GE359 := Aside0.mk (qe HB hg); replace HB := Aside0.mk (below_step (qs HB) hb); clear hb hbox hg; have hcz9_0 : w8.cell? ⟨gb359, 0, none⟩ = some (.int .u64 a0_0) := (blk_cell BK359.out 0).trans rfl; have hcz9_1 : w8.cell? ⟨gb359, 1, none⟩ = some (.slice A0_1 l0_1.length c0_1) := (blk_cell BK359.out 1).trans rfl; have hfz9_0 := blk_frozen BK359.out 0; have hfz9_1 := blk_frozen BK359.out 1) | ((with_reducible refine gate_callee (f := 48) rfl ?_); refine goesL_ (some 4) rfl rfl Tryz.func48 (by kernel_rfl) rfl #[.agg #[.int .u64 a0_0, .slice A0_1 l0_1.length c0_1]] rfl ql ?_; (with_reducible refine (alias_Right.calls k a0_0 _ _ l0_1 false _ ?side1 ?side2 A2.out).mono ?_); (case side1 => repeat (first | exact (Kd.C_below HR0_1.out HB.out) | (with_reducible refine Kd.C_alloc ?_ _) | (with_reducible refine Kd.C_drewN ?_ _) | (with_reducible refine Kd.C_drew ?_))); (case side2 => exact HC0_1.out); rintro e w10 ⟨rfl, hb⟩; refine ⟨_, rfl, ?_⟩; replace BK359 := Aside0.mk (qB BK359 hb); replace HB := Aside0.mk (below_step (qs HB) hb); (try clear hb); (try clear hb2); (try clear hk); (try clear hi)))
  go_ret
  exact ⟨by first | rfl | (simp [errW_none, errW_some] <;> rfl) | (simp [*, errW_none, errW_some] <;> rfl), (qs HB)⟩
def alias_column.f (k : Nat) (a0_0 : Int) (l0_1 : List (S96)) (a1 : Int) : Option (Int) := (alias_Right.f k a0_0 l0_1).bind fun t362 => (if t362 = true then (if a1 < 0 then (some 3) else (if a1 ≥ (l0_1.length : Int) then (some 3) else (some 0))) else (some 1))
theorem alias_column.mono : ∀ a0 a1 a2 k, LeO (alias_column.f k a0 a1 a2) (alias_column.f (k + 1) a0 a1 a2) := by
 intro a0 a1 a2 k
 unfold alias_column.f
 repeat' first
   | (with_reducible exact alias_Right.mono _ _ _)
   | (with_reducible exact LeO.refl _)
   | (with_reducible exact LeO.none _)
   | (with_reducible refine LeO.ite ?_ ?_)
   | (with_reducible refine LeO.bind ?_ (fun _ => ?_))
   | exact alias_Right.mono _ _ _
   | exact LeO.none _
   | refine LeO.ite ?_ ?_
   | refine LeO.bind ?_ (fun _ => ?_)
set_option maxHeartbeats 8000000 in
set_option maxRecDepth 100000 in
theorem alias_column.calls (k : Nat) (a0_0 : Int) (A0_1 : Option Addr) (c0_1 : Nat) (l0_1 : List (S96)) (a1 : Int) (r : Int) (w : World) (hr0_1 : Kd.C k96 w A0_1 l0_1.length l0_1) (hc0_1 : l0_1.length ≤ c0_1) (h : alias_column.f k a0_0 l0_1 a1 = some r) :
  Calls Tryz.prog 91 #[.agg #[.int .u64 a0_0, .slice A0_1 l0_1.length c0_1], .int .i64 a1] w fun e w' => e = .returned (.int .i64 r) ∧ Below w.heap.size w w' := by
 have hu30 := Tryz.underlying30
 have HR0_1 := Aside0.mk hr0_1
 have HC0_1 := Aside0.mk hc0_1
 clear hr0_1 hc0_1
 have HB := Aside0.mk (Below.refl w.heap.size w)
 have H : ((alias_Right.f k a0_0 l0_1).bind fun t362 => (if t362 = true then (if a1 < 0 then (some 3) else (if a1 ≥ (l0_1.length : Int) then (some 3) else (some 0))) else (some 1))) = some r := h
 clear h
 replace H := Option.bind_eq_some_iff.mp H
 obtain ⟨t362, A30, H⟩ := H
 try dsimp only at H
 have A3 := Aside0.mk A30
 clear A30
 by_cases c4 : t362 = true
 ·subst c4
  have H1 : (if a1 < 0 then (some 3) else (if a1 ≥ (l0_1.length : Int) then (some 3) else (some 0))) = some r := by rw [if_pos rfl] at H; exact H
  clear H
  have H := H1
  clear H1
  by_cases c5 : a1 < 0
  ·rw [if_pos c5] at H
   have c5b0 : decide (a1 < 0) = true := decide_eq_true c5
   clear c5
   obtain rfl := Option.some.inj H
   go_enter Tryz.func91, Tryz.ntmps91
   go_wp2_with (first | ((with_reducible refine qd 2 ?_); (try (refine gate_guard (by rfl) ?_; dsimp only)); refine box_event ?hg (N := 2) ?hd (cs := #[.int .u64 a0_0, .slice A0_1 l0_1.length c0_1]) (t := 30) ?hr ?_; (case hd => rfl); (case hg => rfl); (case hr => first | (go_simp; done) | (go_simp; rfl)); intro gb361 hg w6 hbox hb; have BK361 := Aside0.mk (hbox); have GW361 := Aside0.mk (qe HB hg); have GE361 := Aside0.mk (qe HB hg); replace HB := Aside0.mk (below_step (qs HB) hb); clear hb hbox hg; have hcz7_0 : w6.cell? ⟨gb361, 0, none⟩ = some (.int .u64 a0_0) := (blk_cell BK361.out 0).trans rfl; have hcz7_1 : w6.cell? ⟨gb361, 1, none⟩ = some (.slice A0_1 l0_1.length c0_1) := (blk_cell BK361.out 1).trans rfl; have hfz7_0 := blk_frozen BK361.out 0; have hfz7_1 := blk_frozen BK361.out 1) | ((with_reducible refine gate_callee (f := 48) rfl ?_); refine goesL_ (some 7) rfl rfl Tryz.func48 (by kernel_rfl) rfl #[.agg #[.int .u64 a0_0, .slice A0_1 l0_1.length c0_1]] rfl ql ?_; (with_reducible refine (alias_Right.calls k a0_0 _ _ l0_1 true _ ?side1 ?side2 A3.out).mono ?_); (case side1 => repeat (first | exact (Kd.C_below HR0_1.out HB.out) | (with_reducible refine Kd.C_alloc ?_ _) | (with_reducible refine Kd.C_drewN ?_ _) | (with_reducible refine Kd.C_drew ?_))); (case side2 => exact HC0_1.out); rintro e w8 ⟨rfl, hb⟩; refine ⟨_, rfl, ?_⟩; replace BK361 := Aside0.mk (qB BK361 hb); replace HB := Aside0.mk (below_step (qs HB) hb); (try clear hb); (try clear hb2); (try clear hk); (try clear hi)))
   go_ret
   exact ⟨by first | rfl | (simp [errW_none, errW_some] <;> rfl) | (simp [*, errW_none, errW_some] <;> rfl), (qs HB)⟩
  ·rw [if_neg c5] at H
   have c5b0 : decide (a1 < 0) = false := decide_eq_false c5
   clear c5
   by_cases c9 : a1 ≥ (l0_1.length : Int)
   ·rw [if_pos c9] at H
    have c9b0 : decide ((l0_1.length : Int) ≤ a1) = true := decide_eq_true c9
    clear c9
    obtain rfl := Option.some.inj H
    go_enter Tryz.func91, Tryz.ntmps91
    go_wp2_with (first | ((with_reducible refine qd 2 ?_); (try (refine gate_guard (by rfl) ?_; dsimp only)); refine box_event ?hg (N := 2) ?hd (cs := #[.int .u64 a0_0, .slice A0_1 l0_1.length c0_1]) (t := 30) ?hr ?_; (case hd => rfl); (case hg => rfl); (case hr => first | (go_simp; done) | (go_simp; rfl)); intro gb361 hg w10 hbox hb; have BK361 := Aside0.mk (hbox); have GW361 := Aside0.mk (qe HB hg); have GE361 := Aside0.mk (qe HB hg); replace HB := Aside0.mk (below_step (qs HB) hb); clear hb hbox hg; have hcz11_0 : w10.cell? ⟨gb361, 0, none⟩ = some (.int .u64 a0_0) := (blk_cell BK361.out 0).trans rfl; have hcz11_1 : w10.cell? ⟨gb361, 1, none⟩ = some (.slice A0_1 l0_1.length c0_1) := (blk_cell BK361.out 1).trans rfl; have hfz11_0 := blk_frozen BK361.out 0; have hfz11_1 := blk_frozen BK361.out 1) | ((with_reducible refine gate_callee (f := 48) rfl ?_); refine goesL_ (some 7) rfl rfl Tryz.func48 (by kernel_rfl) rfl #[.agg #[.int .u64 a0_0, .slice A0_1 l0_1.length c0_1]] rfl ql ?_; (with_reducible refine (alias_Right.calls k a0_0 _ _ l0_1 true _ ?side1 ?side2 A3.out).mono ?_); (case side1 => repeat (first | exact (Kd.C_below HR0_1.out HB.out) | (with_reducible refine Kd.C_alloc ?_ _) | (with_reducible refine Kd.C_drewN ?_ _) | (with_reducible refine Kd.C_drew ?_))); (case side2 => exact HC0_1.out); rintro e w12 ⟨rfl, hb⟩; refine ⟨_, rfl, ?_⟩; replace BK361 := Aside0.mk (qB BK361 hb); replace HB := Aside0.mk (below_step (qs HB) hb); (try clear hb); (try clear hb2); (try clear hk); (try clear hi); have hcz13_0 : w12.cell? ⟨gb361, 0, none⟩ = some (.int .u64 a0_0) := (blk_cell BK361.out 0).trans rfl; have hcz13_1 : w12.cell? ⟨gb361, 1, none⟩ = some (.slice A0_1 l0_1.length c0_1) := (blk_cell BK361.out 1).trans rfl; have hfz13_0 := blk_frozen BK361.out 0; have hfz13_1 := blk_frozen BK361.out 1))
    go_ret
    exact ⟨by first | rfl | (simp [errW_none, errW_some] <;> rfl) | (simp [*, errW_none, errW_some] <;> rfl), (qs HB)⟩
   ·rw [if_neg c9] at H
    have c9b0 : decide ((l0_1.length : Int) ≤ a1) = false := decide_eq_false c9
    clear c9
    obtain rfl := Option.some.inj H
    go_enter Tryz.func91, Tryz.ntmps91
    go_wp2_with (first | ((with_reducible refine qd 2 ?_); (try (refine gate_guard (by rfl) ?_; dsimp only)); refine box_event ?hg (N := 2) ?hd (cs := #[.int .u64 a0_0, .slice A0_1 l0_1.length c0_1]) (t := 30) ?hr ?_; (case hd => rfl); (case hg => rfl); (case hr => first | (go_simp; done) | (go_simp; rfl)); intro gb361 hg w14 hbox hb; have BK361 := Aside0.mk (hbox); have GW361 := Aside0.mk (qe HB hg); have GE361 := Aside0.mk (qe HB hg); replace HB := Aside0.mk (below_step (qs HB) hb); clear hb hbox hg; have hcz15_0 : w14.cell? ⟨gb361, 0, none⟩ = some (.int .u64 a0_0) := (blk_cell BK361.out 0).trans rfl; have hcz15_1 : w14.cell? ⟨gb361, 1, none⟩ = some (.slice A0_1 l0_1.length c0_1) := (blk_cell BK361.out 1).trans rfl; have hfz15_0 := blk_frozen BK361.out 0; have hfz15_1 := blk_frozen BK361.out 1) | ((with_reducible refine gate_callee (f := 48) rfl ?_); refine goesL_ (some 7) rfl rfl Tryz.func48 (by kernel_rfl) rfl #[.agg #[.int .u64 a0_0, .slice A0_1 l0_1.length c0_1]] rfl ql ?_; (with_reducible refine (alias_Right.calls k a0_0 _ _ l0_1 true _ ?side1 ?side2 A3.out).mono ?_); (case side1 => repeat (first | exact (Kd.C_below HR0_1.out HB.out) | (with_reducible refine Kd.C_alloc ?_ _) | (with_reducible refine Kd.C_drewN ?_ _) | (with_reducible refine Kd.C_drew ?_))); (case side2 => exact HC0_1.out); rintro e w16 ⟨rfl, hb⟩; refine ⟨_, rfl, ?_⟩; replace BK361 := Aside0.mk (qB BK361 hb); replace HB := Aside0.mk (below_step (qs HB) hb); (try clear hb); (try clear hb2); (try clear hk); (try clear hi); have hcz17_0 : w16.cell? ⟨gb361, 0, none⟩ = some (.int .u64 a0_0) := (blk_cell BK361.out 0).trans rfl; have hcz17_1 : w16.cell? ⟨gb361, 1, none⟩ = some (.slice A0_1 l0_1.length c0_1) := (blk_cell BK361.out 1).trans rfl; have hfz17_0 := blk_frozen BK361.out 0; have hfz17_1 := blk_frozen BK361.out 1))
    go_ret
    exact ⟨by first | rfl | (simp [errW_none, errW_some] <;> rfl) | (simp [*, errW_none, errW_some] <;> rfl), (qs HB)⟩
 ·replace c4 := Bool.eq_false_iff.mpr c4
  subst c4
  have H1 : (some 1) = some r := by rw [if_neg (show ¬ (false = true) by decide)] at H; exact H
  clear H
  have H := H1
  clear H1
  obtain rfl := Option.some.inj H
  go_enter Tryz.func91, Tryz.ntmps91
  go_wp2_with (first | ((with_reducible refine qd 2 ?_); (try (refine gate_guard (by rfl) ?_; dsimp only)); refine box_event ?hg (N := 2) ?hd (cs := #[.int .u64 a0_0, .slice A0_1 l0_1.length c0_1]) (t := 30) ?hr ?_; (case hd => rfl); (case hg => rfl); (case hr => first | (go_simp; done) | (go_simp; rfl)); intro gb361 hg w18 hbox hb; have BK361 := Aside0.mk (hbox); have GW361 := Aside0.mk (qe HB hg); have GE361 := Aside0.mk (qe HB hg); replace HB := Aside0.mk (below_step (qs HB) hb); clear hb hbox hg; have hcz19_0 : w18.cell? ⟨gb361, 0, none⟩ = some (.int .u64 a0_0) := (blk_cell BK361.out 0).trans rfl; have hcz19_1 : w18.cell? ⟨gb361, 1, none⟩ = some (.slice A0_1 l0_1.length c0_1) := (blk_cell BK361.out 1).trans rfl; have hfz19_0 := blk_frozen BK361.out 0; have hfz19_1 := blk_frozen BK361.out 1) | ((with_reducible refine gate_callee (f := 48) rfl ?_); refine goesL_ (some 7) rfl rfl Tryz.func48 (by kernel_rfl) rfl #[.agg #[.int .u64 a0_0, .slice A0_1 l0_1.length c0_1]] rfl ql ?_; (with_reducible refine (alias_Right.calls k a0_0 _ _ l0_1 false _ ?side1 ?side2 A3.out).mono ?_); (case side1 => repeat (first | exact (Kd.C_below HR0_1.out HB.out) | (with_reducible refine Kd.C_alloc ?_ _) | (with_reducible refine Kd.C_drewN ?_ _) | (with_reducible refine Kd.C_drew ?_))); (case side2 => exact HC0_1.out); rintro e w20 ⟨rfl, hb⟩; refine ⟨_, rfl, ?_⟩; replace BK361 := Aside0.mk (qB BK361 hb); replace HB := Aside0.mk (below_step (qs HB) hb); (try clear hb); (try clear hb2); (try clear hk); (try clear hi)))
  go_ret
  exact ⟨by first | rfl | (simp [errW_none, errW_some] <;> rfl) | (simp [*, errW_none, errW_some] <;> rfl), (qs HB)⟩
def alias_Lookup.f (k : Nat) (a0_0 : Int) (l0_1 : List (S96)) (a1 : Int) (a2 : Int) : Option (Int × Int) := (alias_column.f k a0_0 l0_1 a1).bind fun t364 => (if t364 = 0 then (if a2 ≥ a0_0 then (some (0, 3)) else (if 0 ≤ a1 then (if a1 < (l0_1.length : Int) then (if a2 ≥ ((rd_T96 l0_1 a1).f0) then (some ((rd_T96 l0_1 a1).f1, 0)) else (some (a1, 0))) else (none)) else (none))) else (some (0, t364)))
theorem alias_Lookup.mono : ∀ a0 a1 a2 a3 k, LeO (alias_Lookup.f k a0 a1 a2 a3) (alias_Lookup.f (k + 1) a0 a1 a2 a3) := by
 intro a0 a1 a2 a3 k
 unfold alias_Lookup.f
 repeat' first
   | (with_reducible exact alias_column.mono _ _ _ _)
   | (with_reducible exact LeO.refl _)
   | (with_reducible exact LeO.none _)
   | (with_reducible refine LeO.ite ?_ ?_)
   | (with_reducible refine LeO.bind ?_ (fun _ => ?_))
   | exact alias_column.mono _ _ _ _
   | exact LeO.none _
   | refine LeO.ite ?_ ?_
   | refine LeO.bind ?_ (fun _ => ?_)
set_option maxHeartbeats 8000000 in
set_option maxRecDepth 100000 in
theorem alias_Lookup.calls (k : Nat) (a0_0 : Int) (A0_1 : Option Addr) (c0_1 : Nat) (l0_1 : List (S96)) (a1 : Int) (a2 : Int) (r1 : Int) (r2 : Int) (w : World) (hr0_1 : Kd.C k96 w A0_1 l0_1.length l0_1) (hc0_1 : l0_1.length ≤ c0_1) (h : alias_Lookup.f k a0_0 l0_1 a1 a2 = some (r1, r2)) :
  Calls Tryz.prog 63 #[.agg #[.int .u64 a0_0, .slice A0_1 l0_1.length c0_1], .int .i64 a1, .int .u64 a2] w fun e w' => e = .returned (.tuple #[.int .i64 r1, .int .i64 r2]) ∧ Below w.heap.size w w' := by
 have hu30 := Tryz.underlying30
 have hu96 := Tryz.underlying96
 have HR0_1 := Aside0.mk hr0_1
 have HC0_1 := Aside0.mk hc0_1
 clear hr0_1 hc0_1
 have HB := Aside0.mk (Below.refl w.heap.size w)
 have H : ((alias_column.f k a0_0 l0_1 a1).bind fun t364 => (if t364 = 0 then (if a2 ≥ a0_0 then (some (0, 3)) else (if 0 ≤ a1 then (if a1 < (l0_1.length : Int) then (if a2 ≥ ((rd_T96 l0_1 a1).f0) then (some ((rd_T96 l0_1 a1).f1, 0)) else (some (a1, 0))) else (none)) else (none))) else (some (0, t364)))) = some (r1, r2) := h
 clear h
 replace H := Option.bind_eq_some_iff.mp H
 obtain ⟨t364, A40, H⟩ := H
 try dsimp only at H
 have A4 := Aside0.mk A40
 clear A40
 by_cases c5 : t364 = 0
 ·rw [if_pos c5] at H
  have c5b0 : (t364 == 0) = true := beq_iff_eq.mpr c5
  have c5b1 : (t364 != 0) = false := bne_eq_false_iff_eq.mpr c5
  clear c5
  by_cases c6 : a2 ≥ a0_0
  ·rw [if_pos c6] at H
   have c6b0 : decide (a0_0 ≤ a2) = true := decide_eq_true c6
   clear c6
   simp only [Option.some.injEq, Prod.mk.injEq] at H
   obtain ⟨rfl, rfl⟩ := H
   go_enter Tryz.func63, Tryz.ntmps63
   go_wp2_with (first | ((with_reducible refine qd 3 ?_); refine box_event ?hg (N := 3) ?hd (cs := #[.int .u64 a0_0, .slice A0_1 l0_1.length c0_1]) (t := 30) ?hr ?_; (case hd => rfl); (case hg => rfl); (case hr => first | (go_simp; done) | (go_simp; rfl)); intro gb363 hg w7 hbox hb; have BK363 := Aside0.mk (hbox); have GW363 := Aside0.mk (qe HB hg); have GE363 := Aside0.mk (qe HB hg); replace HB := Aside0.mk (below_step (qs HB) hb); clear hb hbox hg; have hcz8_0 : w7.cell? ⟨gb363, 0, none⟩ = some (.int .u64 a0_0) := (blk_cell BK363.out 0).trans rfl; have hcz8_1 : w7.cell? ⟨gb363, 1, none⟩ = some (.slice A0_1 l0_1.length c0_1) := (blk_cell BK363.out 1).trans rfl; have hfz8_0 := blk_frozen BK363.out 0; have hfz8_1 := blk_frozen BK363.out 1) | ((with_reducible refine gate_callee (f := 91) rfl ?_); refine goesL_ (some 12) rfl rfl Tryz.func91 (by kernel_rfl) rfl #[.agg #[.int .u64 a0_0, .slice A0_1 l0_1.length c0_1], .int .i64 a1] rfl ql ?_; (with_reducible refine (alias_column.calls k a0_0 _ _ l0_1 a1 t364 _ ?side1 ?side2 A4.out).mono ?_); (case side1 => repeat (first | exact (Kd.C_below HR0_1.out HB.out) | (with_reducible refine Kd.C_alloc ?_ _) | (with_reducible refine Kd.C_drewN ?_ _) | (with_reducible refine Kd.C_drew ?_))); (case side2 => exact HC0_1.out); rintro e w9 ⟨rfl, hb⟩; refine ⟨_, rfl, ?_⟩; replace BK363 := Aside0.mk (qB BK363 hb); replace HB := Aside0.mk (below_step (qs HB) hb); (try clear hb); (try clear hb2); (try clear hk); (try clear hi); have hcz10_0 : w9.cell? ⟨gb363, 0, none⟩ = some (.int .u64 a0_0) := (blk_cell BK363.out 0).trans rfl; have hcz10_1 : w9.cell? ⟨gb363, 1, none⟩ = some (.slice A0_1 l0_1.length c0_1) := (blk_cell BK363.out 1).trans rfl; have hfz10_0 := blk_frozen BK363.out 0; have hfz10_1 := blk_frozen BK363.out 1))
   go_ret2
   exact ⟨by first | rfl | (simp [errW_none, errW_some] <;> rfl) | (simp [*, errW_none, errW_some] <;> rfl), (qs HB)⟩
  ·rw [if_neg c6] at H
   have c6b0 : decide (a0_0 ≤ a2) = false := decide_eq_false c6
   clear c6
   by_cases c11 : 0 ≤ a1
   ·rw [if_pos c11] at H
    have c11b0 : decide (0 ≤ a1) = true := decide_eq_true c11
    clear c11
    by_cases c12 : a1 < (l0_1.length : Int)
    ·rw [if_pos c12] at H
     have c12b0 : decide (a1 < (l0_1.length : Int)) = true := decide_eq_true c12
     clear c12
     by_cases c13 : a2 ≥ ((rd_T96 l0_1 a1).f0)
     ·rw [if_pos c13] at H
      have c13b0 : decide (((rd_T96 l0_1 a1).f0) ≤ a2) = true := decide_eq_true c13
      clear c13
      simp only [Option.some.injEq, Prod.mk.injEq] at H
      obtain ⟨rfl, rfl⟩ := H
      go_enter Tryz.func63, Tryz.ntmps63
      go_wp2_with (first | ((with_reducible refine qd 3 ?_); refine box_event ?hg (N := 3) ?hd (cs := #[.int .u64 a0_0, .slice A0_1 l0_1.length c0_1]) (t := 30) ?hr ?_; (case hd => rfl); (case hg => rfl); (case hr => first | (go_simp; done) | (go_simp; rfl)); intro gb363 hg w14 hbox hb; have BK363 := Aside0.mk (hbox); have GW363 := Aside0.mk (qe HB hg); have GE363 := Aside0.mk (qe HB hg); replace HB := Aside0.mk (below_step (qs HB) hb); clear hb hbox hg; have hcz15_0 : w14.cell? ⟨gb363, 0, none⟩ = some (.int .u64 a0_0) := (blk_cell BK363.out 0).trans rfl; have hcz15_1 : w14.cell? ⟨gb363, 1, none⟩ = some (.slice A0_1 l0_1.length c0_1) := (blk_cell BK363.out 1).trans rfl; have hfz15_0 := blk_frozen BK363.out 0; have hfz15_1 := blk_frozen BK363.out 1) | ((with_reducible refine gate_callee (f := 91) rfl ?_); refine goesL_ (some 12) rfl rfl Tryz.func91 (by kernel_rfl) rfl #[.agg #[.int .u64 a0_0, .slice A0_1 l0_1.length c0_1], .int .i64 a1] rfl ql ?_; (with_reducible refine (alias_column.calls k a0_0 _ _ l0_1 a1 t364 _ ?side1 ?side2 A4.out).mono ?_); (case side1 => repeat (first | exact (Kd.C_below HR0_1.out HB.out) | (with_reducible refine Kd.C_alloc ?_ _) | (with_reducible refine Kd.C_drewN ?_ _) | (with_reducible refine Kd.C_drew ?_))); (case side2 => exact HC0_1.out); rintro e w16 ⟨rfl, hb⟩; refine ⟨_, rfl, ?_⟩; replace BK363 := Aside0.mk (qB BK363 hb); replace HB := Aside0.mk (below_step (qs HB) hb); (try clear hb); (try clear hb2); (try clear hk); (try clear hi); have hcz17_0 : w16.cell? ⟨gb363, 0, none⟩ = some (.int .u64 a0_0) := (blk_cell BK363.out 0).trans rfl; have hcz17_1 : w16.cell? ⟨gb363, 1, none⟩ = some (.slice A0_1 l0_1.length c0_1) := (blk_cell BK363.out 1).trans rfl; have hfz17_0 := blk_frozen BK363.out 0; have hfz17_1 := blk_frozen BK363.out 1; have p365 : 0 ≤ (a1 : Int) := of_decide_eq_true qa; have q365 : a1 < (l0_1.length : Int) := of_decide_eq_true qa; obtain ⟨ad365, e365, hx365_0, hx365_1⟩ := at_T96 HR0_1.out a1 p365 q365; cases e365; replace hx365_0 := (HB.out.cell (World.block_lt_of_cell? w _ hx365_0)).trans hx365_0; replace hx365_1 := (HB.out.cell (World.block_lt_of_cell? w _ hx365_1)).trans hx365_1; replace p365 := eq_true p365; replace q365 := eq_true q365) | ((with_reducible refine qd 9 ?_); refine box_event ?hg (N := 9) ?hd (cs := #[.int .u64 0, .int .i64 0]) (t := 96) ?hr ?_; (case hd => rfl); (case hg => rfl); (case hr => first | (go_simp; done) | (go_simp; rfl)); intro gb366 hg w18 hbox hb; have BK366 := Aside0.mk (hbox); have GW366 := Aside0.mk (qe HB hg); have GE366 := Aside0.mk (qe HB hg); replace HB := Aside0.mk (below_step (qs HB) hb); have NB363_366 := Aside0.mk (qu BK363 hg); have NB366_363 := Aside0.mk (qw BK363 hg); replace BK363 := Aside0.mk (qB BK363 hb); clear hb hbox hg; have hnb19 := NB366_363.out; have hnc19 := NB363_366.out; have hcz20_0 : w18.cell? ⟨gb366, 0, none⟩ = some (.int .u64 0) := (blk_cell BK366.out 0).trans rfl; have hcz20_1 : w18.cell? ⟨gb366, 1, none⟩ = some (.int .i64 0) := (blk_cell BK366.out 1).trans rfl; have hfz20_0 := blk_frozen BK366.out 0; have hfz20_1 := blk_frozen BK366.out 1))
      go_ret2
      exact ⟨by first | rfl | (simp [errW_none, errW_some] <;> rfl) | (simp [*, errW_none, errW_some] <;> rfl), (qs HB)⟩
     ·rw [if_neg c13] at H
      have c13b0 : decide (((rd_T96 l0_1 a1).f0) ≤ a2) = false := decide_eq_false c13
      clear c13
      simp only [Option.some.injEq, Prod.mk.injEq] at H
      obtain ⟨rfl, rfl⟩ := H
      go_enter Tryz.func63, Tryz.ntmps63
      go_wp2_with (first | ((with_reducible refine qd 3 ?_); refine box_event ?hg (N := 3) ?hd (cs := #[.int .u64 a0_0, .slice A0_1 l0_1.length c0_1]) (t := 30) ?hr ?_; (case hd => rfl); (case hg => rfl); (case hr => first | (go_simp; done) | (go_simp; rfl)); intro gb363 hg w21 hbox hb; have BK363 := Aside0.mk (hbox); have GW363 := Aside0.mk (qe HB hg); have GE363 := Aside0.mk (qe HB hg); replace HB := Aside0.mk (below_step (qs HB) hb); clear hb hbox hg; have hcz22_0 : w21.cell? ⟨gb363, 0, none⟩ = some (.int .u64 a0_0) := (blk_cell BK363.out 0).trans rfl; have hcz22_1 : w21.cell? ⟨gb363, 1, none⟩ = some (.slice A0_1 l0_1.length c0_1) := (blk_cell BK363.out 1).trans rfl; have hfz22_0 := blk_frozen BK363.out 0; have hfz22_1 := blk_frozen BK363.out 1) | ((with_reducible refine gate_callee (f := 91) rfl ?_); refine goesL_ (some 12) rfl rfl Tryz.func91 (by kernel_rfl) rfl #[.agg #[.int .u64 a0_0, .slice A0_1 l0_1.length c0_1], .int .i64 a1] rfl ql ?_; (with_reducible refine (alias_column.calls k a0_0 _ _ l0_1 a1 t364 _ ?side1 ?side2 A4.out).mono ?_); (case side1 => repeat (first | exact (Kd.C_below HR0_1.out HB.out) | (with_reducible refine Kd.C_alloc ?_ _) | (with_reducible refine Kd.C_drewN ?_ _) | (with_reducible refine Kd.C_drew ?_))); (case side2 => exact HC0_1.out); rintro e w23 ⟨rfl, hb⟩; refine ⟨_, rfl, ?_⟩; replace BK363 := Aside0.mk (qB BK363 hb); replace HB := Aside0.mk (below_step (qs HB) hb); (try clear hb); (try clear hb2); (try clear hk); (try clear hi); have hcz24_0 : w23.cell? ⟨gb363, 0, none⟩ = some (.int .u64 a0_0) := (blk_cell BK363.out 0).trans rfl; have hcz24_1 : w23.cell? ⟨gb363, 1, none⟩ = some (.slice A0_1 l0_1.length c0_1) := (blk_cell BK363.out 1).trans rfl; have hfz24_0 := blk_frozen BK363.out 0; have hfz24_1 := blk_frozen BK363.out 1; have p365 : 0 ≤ (a1 : Int) := of_decide_eq_true qa; have q365 : a1 < (l0_1.length : Int) := of_decide_eq_true qa; obtain ⟨ad365, e365, hx365_0, hx365_1⟩ := at_T96 HR0_1.out a1 p365 q365; cases e365; replace hx365_0 := (HB.out.cell (World.block_lt_of_cell? w _ hx365_0)).trans hx365_0; replace hx365_1 := (HB.out.cell (World.block_lt_of_cell? w _ hx365_1)).trans hx365_1; replace p365 := eq_true p365; replace q365 := eq_true q365) | ((with_reducible refine qd 9 ?_); refine box_event ?hg (N := 9) ?hd (cs := #[.int .u64 0, .int .i64 0]) (t := 96) ?hr ?_; (case hd => rfl); (case hg => rfl); (case hr => first | (go_simp; done) | (go_simp; rfl)); intro gb366 hg w25 hbox hb; have BK366 := Aside0.mk (hbox); have GW366 := Aside0.mk (qe HB hg); have GE366 := Aside0.mk (qe HB hg); replace HB := Aside0.mk (below_step (qs HB) hb); have NB363_366 := Aside0.mk (qu BK363 hg); have NB366_363 := Aside0.mk (qw BK363 hg); replace BK363 := Aside0.mk (qB BK363 hb); clear hb hbox hg; have hnb26 := NB366_363.out; have hnc26 := NB363_366.out; have hcz27_0 : w25.cell? ⟨gb366, 0, none⟩ = some (.int .u64 0) := (blk_cell BK366.out 0).trans rfl; have hcz27_1 : w25.cell? ⟨gb366, 1, none⟩ = some (.int .i64 0) := (blk_cell BK366.out 1).trans rfl; have hfz27_0 := blk_frozen BK366.out 0; have hfz27_1 := blk_frozen BK366.out 1))
      go_ret2
      exact ⟨by first | rfl | (simp [errW_none, errW_some] <;> rfl) | (simp [*, errW_none, errW_some] <;> rfl), (qs HB)⟩
    ·rw [if_neg c12] at H
     exact absurd H (by simp)
   ·rw [if_neg c11] at H
    exact absurd H (by simp)
 ·rw [if_neg c5] at H
  have c5b0 : (t364 == 0) = false := beq_eq_false_iff_ne.mpr c5
  have c5b1 : (t364 != 0) = true := bne_iff_ne.mpr c5
  simp only [Option.some.injEq, Prod.mk.injEq] at H
  obtain ⟨rfl, rfl⟩ := H
  go_enter Tryz.func63, Tryz.ntmps63
  go_wp2_with (first | ((with_reducible refine qd 3 ?_); refine box_event ?hg (N := 3) ?hd (cs := #[.int .u64 a0_0, .slice A0_1 l0_1.length c0_1]) (t := 30) ?hr ?_; (case hd => rfl); (case hg => rfl); (case hr => first | (go_simp; done) | (go_simp; rfl)); intro gb363 hg w28 hbox hb; have BK363 := Aside0.mk (hbox); have GW363 := Aside0.mk (qe HB hg); have GE363 := Aside0.mk (qe HB hg); replace HB := Aside0.mk (below_step (qs HB) hb); clear hb hbox hg; have hcz29_0 : w28.cell? ⟨gb363, 0, none⟩ = some (.int .u64 a0_0) := (blk_cell BK363.out 0).trans rfl; have hcz29_1 : w28.cell? ⟨gb363, 1, none⟩ = some (.slice A0_1 l0_1.length c0_1) := (blk_cell BK363.out 1).trans rfl; have hfz29_0 := blk_frozen BK363.out 0; have hfz29_1 := blk_frozen BK363.out 1) | ((with_reducible refine gate_callee (f := 91) rfl ?_); refine goesL_ (some 12) rfl rfl Tryz.func91 (by kernel_rfl) rfl #[.agg #[.int .u64 a0_0, .slice A0_1 l0_1.length c0_1], .int .i64 a1] rfl ql ?_; (with_reducible refine (alias_column.calls k a0_0 _ _ l0_1 a1 t364 _ ?side1 ?side2 A4.out).mono ?_); (case side1 => repeat (first | exact (Kd.C_below HR0_1.out HB.out) | (with_reducible refine Kd.C_alloc ?_ _) | (with_reducible refine Kd.C_drewN ?_ _) | (with_reducible refine Kd.C_drew ?_))); (case side2 => exact HC0_1.out); rintro e w30 ⟨rfl, hb⟩; refine ⟨_, rfl, ?_⟩; replace BK363 := Aside0.mk (qB BK363 hb); replace HB := Aside0.mk (below_step (qs HB) hb); (try clear hb); (try clear hb2); (try clear hk); (try clear hi)))
  go_ret2
  exact ⟨by first | rfl | (simp [errW_none, errW_some] <;> rfl) | (simp [*, errW_none, errW_some] <;> rfl), (qs HB)⟩
def alias_Owner.f (k : Nat) (a0_0 : Int) (l0_1 : List (S96)) (a1 : Int) : Option (Int × Int) := (alias_Right.f k a0_0 l0_1).bind fun t368 => (if t368 = true then ((alias_Size.f k a0_0 l0_1).bind fun t369 => (if a1 ≥ t369 then (some (0, 3)) else (if a0_0 = 0 then (none) else ((alias_Lookup.f k a0_0 l0_1 (wrap64 (IntKind.u64.wrap (Int.tdiv a1 a0_0))) (Int.tmod a1 a0_0)).bind fun bt370 => (some (bt370.1, bt370.2)))))) else (some (0, 1)))
theorem alias_Owner.mono : ∀ a0 a1 a2 k, LeO (alias_Owner.f k a0 a1 a2) (alias_Owner.f (k + 1) a0 a1 a2) := by
 intro a0 a1 a2 k
 unfold alias_Owner.f
 repeat' first
   | (with_reducible exact alias_Lookup.mono _ _ _ _ _)
   | (with_reducible exact alias_Right.mono _ _ _)
   | (with_reducible exact alias_Size.mono _ _ _)
   | (with_reducible exact LeO.refl _)
   | (with_reducible exact LeO.none _)
   | (with_reducible refine LeO.ite ?_ ?_)
   | (with_reducible refine LeO.bind ?_ (fun _ => ?_))
   | exact alias_Lookup.mono _ _ _ _ _
   | exact alias_Right.mono _ _ _
   | exact alias_Size.mono _ _ _
   | exact LeO.none _
   | refine LeO.ite ?_ ?_
   | refine LeO.bind ?_ (fun _ => ?_)
def alias_Owner.T5 : Bool × List (List Nat × List Nat) := (true, [([], []), ([], []), ([], []), ([2], [2]), ([1, 3], [1, 3]), ([4], [4]), ([], []), ([], []), ([7], [7]), ([6, 8], [6, 8]), ([0, 5, 9], [0, 5, 9]), ([10], [10]), ([10], [10]), ([11, 10, 0, 1, 2, 3, 4, 5, 6, 7, 8, 9, 10, 11, 12], [11]), ([12, 13, 0, 1, 2, 3, 4, 5, 6, 7, 8, 9, 10, 11, 12, 13], [12])])
def alias_Owner.B5 : List Nat := [0, 0, 0, 4, 14, 30, 0, 0, 128, 448, 1023, 2047, 2047, 8191, 16383]
theorem alias_Owner.tab5 : rtab .any (opsOf Tryz.f27 5) = alias_Owner.T5 := by kernel_rfl
theorem alias_Owner.bits5 : waitsOk alias_Owner.T5.2 alias_Owner.B5 = true := by kernel_rfl
set_option maxHeartbeats 8000000 in
set_option maxRecDepth 100000 in
theorem alias_Owner.calls (k : Nat) (a0_0 : Int) (A0_1 : Option Addr) (c0_1 : Nat) (l0_1 : List (S96)) (a1 : Int) (r1 : Int) (r2 : Int) (w : World) (hr0_1 : Kd.C k96 w A0_1 l0_1.length l0_1) (hc0_1 : l0_1.length ≤ c0_1) (h : alias_Owner.f k a0_0 l0_1 a1 = some (r1, r2)) :
  Calls Tryz.prog 27 #[.agg #[.int .u64 a0_0, .slice A0_1 l0_1.length c0_1], .int .u64 a1] w fun e w' => e = .returned (.tuple #[.int .i64 r1, .int .i64 r2]) ∧ Below w.heap.size w w' := by
 have hu30 := Tryz.underlying30
 have HR0_1 := Aside0.mk hr0_1
 have HC0_1 := Aside0.mk hc0_1
 clear hr0_1 hc0_1
 have HB := Aside0.mk (Below.refl w.heap.size w)
 have H : ((alias_Right.f k a0_0 l0_1).bind fun t368 => (if t368 = true then ((alias_Size.f k a0_0 l0_1).bind fun t369 => (if a1 ≥ t369 then (some (0, 3)) else (if a0_0 = 0 then (none) else ((alias_Lookup.f k a0_0 l0_1 (wrap64 (IntKind.u64.wrap (Int.tdiv a1 a0_0))) (Int.tmod a1 a0_0)).bind fun bt370 => (some (bt370.1, bt370.2)))))) else (some (0, 1)))) = some (r1, r2) := h
 clear h
 replace H := Option.bind_eq_some_iff.mp H
 obtain ⟨t368, A30, H⟩ := H
 try dsimp only at H
 have A3 := Aside0.mk A30
 clear A30
 by_cases c4 : t368 = true
 ·subst c4
  have H1 : ((alias_Size.f k a0_0 l0_1).bind fun t369 => (if a1 ≥ t369 then (some (0, 3)) else (if a0_0 = 0 then (none) else ((alias_Lookup.f k a0_0 l0_1 (wrap64 (IntKind.u64.wrap (Int.tdiv a1 a0_0))) (Int.tmod a1 a0_0)).bind fun bt370 => (some (bt370.1, bt370.2)))))) = some (r1, r2) := by rw [if_pos rfl] at H; exact H
  clear H
  have H := H1
  clear H1
  replace H := Option.bind_eq_some_iff.mp H
  obtain ⟨t369, A50, H⟩ := H
  try dsimp only at H
  have A5 := Aside0.mk A50
  clear A50
  by_cases c6 : a1 ≥ t369
  ·rw [if_pos c6] at H
   have c6b0 : decide (t369 ≤ a1) = true := decide_eq_true c6
   clear c6
   simp only [Option.some.injEq, Prod.mk.injEq] at H
   obtain ⟨rfl, rfl⟩ := H
   go_enter Tryz.func27, Tryz.ntmps27
   go_wp2_with (first | ((with_reducible refine qd 2 ?_); refine box_event ?hg (N := 2) ?hd (cs := #[.int .u64 a0_0, .slice A0_1 l0_1.length c0_1]) (t := 30) ?hr ?_; (case hd => rfl); (case hg => rfl); (case hr => first | (go_simp; done) | (go_simp; rfl)); intro gb367 hg w7 hbox hb; have BK367 := Aside0.mk (hbox); have GW367 := Aside0.mk (qe HB hg); have GE367 := Aside0.mk (qe HB hg); replace HB := Aside0.mk (below_step (qs HB) hb); clear hb hbox hg; have hcz8_0 : w7.cell? ⟨gb367, 0, none⟩ = some (.int .u64 a0_0) := (blk_cell BK367.out 0).trans rfl; have hcz8_1 : w7.cell? ⟨gb367, 1, none⟩ = some (.slice A0_1 l0_1.length c0_1) := (blk_cell BK367.out 1).trans rfl; have hfz8_0 := blk_frozen BK367.out 0; have hfz8_1 := blk_frozen BK367.out 1) | ((with_reducible refine gate_callee (f := 48) rfl ?_); refine goesL_ (some 8) rfl rfl Tryz.func48 (by kernel_rfl) rfl #[.agg #[.int .u64 a0_0, .slice A0_1 l0_1.length c0_1]] rfl ql ?_; (with_reducible refine (alias_Right.calls k a0_0 _ _ l0_1 true _ ?side1 ?side2 A3.out).mono ?_); (case side1 => repeat (first | exact (Kd.C_below HR0_1.out HB.out) | (with_reducible refine Kd.C_alloc ?_ _) | (with_reducible refine Kd.C_drewN ?_ _) | (with_reducible refine Kd.C_drew ?_))); (case side2 => exact HC0_1.out); rintro e w9 ⟨rfl, hb⟩; refine ⟨_, rfl, ?_⟩; replace BK367 := Aside0.mk (qB BK367 hb); replace HB := Aside0.mk (below_step (qs HB) hb); (try clear hb); (try clear hb2); (try clear hk); (try clear hi); have hcz10_0 : w9.cell? ⟨gb367, 0, none⟩ = some (.int .u64 a0_0) := (blk_cell BK367.out 0).trans rfl; have hcz10_1 : w9.cell? ⟨gb367, 1, none⟩ = some (.slice A0_1 l0_1.length c0_1) := (blk_cell BK367.out 1).trans rfl; have hfz10_0 := blk_frozen BK367.out 0; have hfz10_1 := blk_frozen BK367.out 1) | ((with_reducible refine gate_callee (f := 49) rfl ?_); refine goesL_ (some 13) rfl rfl Tryz.func49 (by kernel_rfl) rfl #[.agg #[.int .u64 a0_0, .slice A0_1 l0_1.length c0_1]] rfl ql ?_; (with_reducible refine (alias_Size.calls k a0_0 _ _ l0_1 t369 _ ?side1 ?side2 A5.out).mono ?_); (case side1 => repeat (first | exact (Kd.C_below HR0_1.out HB.out) | (with_reducible refine Kd.C_alloc ?_ _) | (with_reducible refine Kd.C_drewN ?_ _) | (with_reducible refine Kd.C_drew ?_))); (case side2 => exact HC0_1.out); rintro e w11 ⟨rfl, hb⟩; refine ⟨_, rfl, ?_⟩; replace BK367 := Aside0.mk (qB BK367 hb); replace HB := Aside0.mk (below_step (qs HB) hb); (try clear hb); (try clear hb2); (try clear hk); (try clear hi)))
   go_ret2
   exact ⟨by first | rfl | (simp [errW_none, errW_some] <;> rfl) | (simp [*, errW_none, errW_some] <;> rfl), (qs HB)⟩
  ·rw [if_neg c6] at H
   have c6b0 : decide (t369 ≤ a1) = false := decide_eq_false c6
   clear c6
   by_cases c12 : a0_0 = 0
   ·rw [if_pos c12] at H
    exact absurd H (by simp)
   ·rw [if_neg c12] at H
    have c12b0 : (a0_0 == 0) = false := beq_eq_false_iff_ne.mpr c12
    have c12b1 : (a0_0 != 0) = true := bne_iff_ne.mpr c12
    replace H := Option.bind_eq_some_iff.mp H
    obtain ⟨⟨t370, t371⟩, A130, H⟩ := H
    try dsimp only at H
    have A13 := Aside0.mk A130
    clear A130
    simp only [Option.some.injEq, Prod.mk.injEq] at H
    obtain ⟨rfl, rfl⟩ := H
    go_enter Tryz.func27, Tryz.ntmps27
    try go_wp2_with (first | ((with_reducible refine qd 2 ?_); refine box_event ?hg (N := 2) ?hd (cs := #[.int .u64 a0_0, .slice A0_1 l0_1.length c0_1]) (t := 30) ?hr ?_; (case hd => rfl); (case hg => rfl); (case hr => first | (go_simp; done) | (go_simp; rfl)); intro gb367 hg w14 hbox hb; have BK367 := Aside0.mk (hbox); have GW367 := Aside0.mk (qe HB hg); have GE367 := Aside0.mk (qe HB hg); replace HB := Aside0.mk (below_step (qs HB) hb); clear hb hbox hg; have hcz15_0 : w14.cell? ⟨gb367, 0, none⟩ = some (.int .u64 a0_0) := (blk_cell BK367.out 0).trans rfl; have hcz15_1 : w14.cell? ⟨gb367, 1, none⟩ = some (.slice A0_1 l0_1.length c0_1) := (blk_cell BK367.out 1).trans rfl; have hfz15_0 := blk_frozen BK367.out 0; have hfz15_1 := blk_frozen BK367.out 1) | ((with_reducible refine gate_callee (f := 48) rfl ?_); refine goesL_ (some 8) rfl rfl Tryz.func48 (by kernel_rfl) rfl #[.agg #[.int .u64 a0_0, .slice A0_1 l0_1.length c0_1]] rfl ql ?_; (with_reducible refine (alias_Right.calls k a0_0 _ _ l0_1 true _ ?side1 ?side2 A3.out).mono ?_); (case side1 => repeat (first | exact (Kd.C_below HR0_1.out HB.out) | (with_reducible refine Kd.C_alloc ?_ _) | (with_reducible refine Kd.C_drewN ?_ _) | (with_reducible refine Kd.C_drew ?_))); (case side2 => exact HC0_1.out); rintro e w16 ⟨rfl, hb⟩; refine ⟨_, rfl, ?_⟩; replace BK367 := Aside0.mk (qB BK367 hb); replace HB := Aside0.mk (below_step (qs HB) hb); (try clear hb); (try clear hb2); (try clear hk); (try clear hi); have hcz17_0 : w16.cell? ⟨gb367, 0, none⟩ = some (.int .u64 a0_0) := (blk_cell BK367.out 0).trans rfl; have hcz17_1 : w16.cell? ⟨gb367, 1, none⟩ = some (.slice A0_1 l0_1.length c0_1) := (blk_cell BK367.out 1).trans rfl; have hfz17_0 := blk_frozen BK367.out 0; have hfz17_1 := blk_frozen BK367.out 1) | ((with_reducible refine gate_callee (f := 49) rfl ?_); refine goesL_ (some 13) rfl rfl Tryz.func49 (by kernel_rfl) rfl #[.agg #[.int .u64 a0_0, .slice A0_1 l0_1.length c0_1]] rfl ql ?_; (with_reducible refine (alias_Size.calls k a0_0 _ _ l0_1 t369 _ ?side1 ?side2 A5.out).mono ?_); (case side1 => repeat (first | exact (Kd.C_below HR0_1.out HB.out) | (with_reducible refine Kd.C_alloc ?_ _) | (with_reducible refine Kd.C_drewN ?_ _) | (with_reducible refine Kd.C_drew ?_))); (case side2 => exact HC0_1.out); rintro e w18 ⟨rfl, hb⟩; refine ⟨_, rfl, ?_⟩; replace BK367 := Aside0.mk (qB BK367 hb); replace HB := Aside0.mk (below_step (qs HB) hb); (try clear hb); (try clear hb2); (try clear hk); (try clear hi)))
    replace BK367 := Aside0.mk (blk_drew BK367.out)
    replace HB := Aside0.mk (below_drew1 HB.out)
    refine start_ (n := 15) (S := fun w' => w'.cell? ⟨gb367, 0, none⟩ = some (.int .u64 a0_0) ∧ w'.cell? ⟨gb367, 1, none⟩ = some (.slice A0_1 l0_1.length c0_1)) (ds := []) #[false, false, false, false, false, false, false, false, false, false, false, false, false, false, false] (by kernel_rfl) rfl rfl ⟨(blk_cell BK367.out 0).trans rfl, (blk_cell BK367.out 1).trans rfl⟩ (fun hHeld => ?_); refine with_tabW alias_Owner.tab5 alias_Owner.bits5 (fun HT_ HW_ => ?_)
    generalize w18.drew = w19 at BK367 HB hHeld ⊢
    refine qQ 1 (some 16) (qt 15 2) (any_of HT_.out (by kernel_rfl)) ?_
    refine qQ 2 (some 17) (qt 15 6) (any_of HT_.out (by kernel_rfl)) ?_
    refine qQ 6 (some 21) (qt 15 70) (any_of HT_.out (by kernel_rfl)) ?_
    refine qQ 7 (some 22) (qt 15 198) (any_of HT_.out (by kernel_rfl)) ?_
    refine take_ (i := 0) (N := some 15) (v := ?_) (a' := ?_) (qt 15 199) rfl rfl (take_ofW HT_.out HW_.out (by kernel_rfl)) (fun _ _ _ h => h) (Or.inl ⟨by rfl, ?_⟩) hHeld ?_ ?_
    rotate_left
    ·rintro w' ⟨s0, s1⟩
     go_simp
     with_reducible rfl
    rotate_left
    ·simp only [Act.put, zA_, zB_, zC_, i64_w, i32_w]
     rfl
    refine take_ (i := 3) (N := some 18) (v := ?_) (a' := ?_) (qt 15 207) rfl rfl (take_ofW HT_.out HW_.out (by kernel_rfl)) (fun _ _ _ h => h) (Or.inl ⟨by rfl, ?_⟩) hHeld ?_ ?_
    rotate_left
    ·rintro w' ⟨s0, s1⟩
     go_simp
     with_reducible rfl
    rotate_left
    ·simp only [Act.put, zA_, zB_, zC_, i64_w, i32_w]
     rfl
    refine qQ 4 (some 19) (qt 15 223) (any_of HT_.out (by kernel_rfl)) ?_
    refine qQ 5 (some 20) (qt 15 255) (any_of HT_.out (by kernel_rfl)) ?_
    refine take_ (i := 8) (N := some 23) (v := ?_) (a' := ?_) (qt 15 511) rfl rfl (take_ofW HT_.out HW_.out (by kernel_rfl)) (fun _ _ _ h => h) (Or.inl ⟨by rfl, ?_⟩) hHeld ?_ ?_
    rotate_left
    ·rintro w' ⟨s0, s1⟩
     go_simp
     with_reducible rfl
    rotate_left
    ·simp only [Act.put, zA_, zB_, zC_, i64_w, i32_w]
     rfl
    refine qQ 9 (some 24) (qt 15 1023) (any_of HT_.out (by kernel_rfl)) ?_
    refine one_ (i := 10) (N := some 25) (qt 15 2047) rfl rfl (one_of HT_.out (by kernel_rfl)) (by decide) (fun K hK => ?_)
    refine goes_ Tryz.func63 (by kernel_rfl) rfl #[.agg #[.int .u64 a0_0, .slice A0_1 l0_1.length c0_1], .int .i64 (wrap64 (IntKind.u64.wrap (Int.tdiv a1 a0_0))), .int .u64 (Int.tmod a1 a0_0)] (by rfl) rfl rfl ql ?_
    with_reducible refine (alias_Lookup.calls k a0_0 _ _ l0_1 (wrap64 (IntKind.u64.wrap (Int.tdiv a1 a0_0))) (Int.tmod a1 a0_0) t370 t371 _ ?side1 ?side2 A13.out).mono ?_
    (case side1 => repeat (first | exact (Kd.C_below HR0_1.out HB.out) | (with_reducible refine Kd.C_alloc ?_ _) | (with_reducible refine Kd.C_drewN ?_ _) | (with_reducible refine Kd.C_drew ?_)))
    (case side2 => exact HC0_1.out)
    rintro e w20 ⟨rfl, hb⟩
    refine ⟨_, rfl, ?_⟩
    replace BK367 := Aside0.mk (qB BK367 hb)
    replace HB := Aside0.mk (below_step (qs HB) hb)
    (try clear hb)
    (try clear hb2)
    (try clear hk)
    (try clear hi)
    refine hK.out _ _ ⟨(blk_cell BK367.out 0).trans rfl, (blk_cell BK367.out 1).trans rfl⟩ (fun hHeld => ?_)
    clear hK K
    refine norm_ (a' := ?_) ?_ ?_
    rotate_left
    ·show Act.put _ (some 25) _ = _
     simp only [Act.put, zA_, zB_, zC_, i64_w, i32_w]
     rfl
    refine qQ 11 (some 26) (qt 15 4095) (any_of HT_.out (by kernel_rfl)) ?_
    refine qQ 12 (some 27) (qt 15 8191) (any_of HT_.out (by kernel_rfl)) ?_
    refine qQ 13 (some 4) (qt 15 16383) (any_of HT_.out (by kernel_rfl)) ?_
    refine qQ 14 (some 5) (qt 15 32767) (any_of HT_.out (by kernel_rfl)) ?_
    refine done_ (done_of HT_.out (by kernel_rfl)) ?_
    try go_wp2
    go_ret2
    exact ⟨by first | rfl | (simp [errW_none, errW_some] <;> rfl) | (simp [*, errW_none, errW_some] <;> rfl), (qs HB)⟩
 ·replace c4 := Bool.eq_false_iff.mpr c4
  subst c4
  have H1 : (some (0, 1)) = some (r1, r2) := by rw [if_neg (show ¬ (false = true) by decide)] at H; exact H
  clear H
  have H := H1
  clear H1
  simp only [Option.some.injEq, Prod.mk.injEq] at H
  obtain ⟨rfl, rfl⟩ := H
  go_enter Tryz.func27, Tryz.ntmps27
  go_wp2_with (first | ((with_reducible refine qd 2 ?_); refine box_event ?hg (N := 2) ?hd (cs := #[.int .u64 a0_0, .slice A0_1 l0_1.length c0_1]) (t := 30) ?hr ?_; (case hd => rfl); (case hg => rfl); (case hr => first | (go_simp; done) | (go_simp; rfl)); intro gb367 hg w21 hbox hb; have BK367 := Aside0.mk (hbox); have GW367 := Aside0.mk (qe HB hg); have GE367 := Aside0.mk (qe HB hg); replace HB := Aside0.mk (below_step (qs HB) hb); clear hb hbox hg; have hcz22_0 : w21.cell? ⟨gb367, 0, none⟩ = some (.int .u64 a0_0) := (blk_cell BK367.out 0).trans rfl; have hcz22_1 : w21.cell? ⟨gb367, 1, none⟩ = some (.slice A0_1 l0_1.length c0_1) := (blk_cell BK367.out 1).trans rfl; have hfz22_0 := blk_frozen BK367.out 0; have hfz22_1 := blk_frozen BK367.out 1) | ((with_reducible refine gate_callee (f := 48) rfl ?_); refine goesL_ (some 8) rfl rfl Tryz.func48 (by kernel_rfl) rfl #[.agg #[.int .u64 a0_0, .slice A0_1 l0_1.length c0_1]] rfl ql ?_; (with_reducible refine (alias_Right.calls k a0_0 _ _ l0_1 false _ ?side1 ?side2 A3.out).mono ?_); (case side1 => repeat (first | exact (Kd.C_below HR0_1.out HB.out) | (with_reducible refine Kd.C_alloc ?_ _) | (with_reducible refine Kd.C_drewN ?_ _) | (with_reducible refine Kd.C_drew ?_))); (case side2 => exact HC0_1.out); rintro e w23 ⟨rfl, hb⟩; refine ⟨_, rfl, ?_⟩; replace BK367 := Aside0.mk (qB BK367 hb); replace HB := Aside0.mk (below_step (qs HB) hb); (try clear hb); (try clear hb2); (try clear hk); (try clear hi)))
  go_ret2
  exact ⟨by first | rfl | (simp [errW_none, errW_some] <;> rfl) | (simp [*, errW_none, errW_some] <;> rfl), (qs HB)⟩
end Go.Proofs.YtekmngghebpciaaGreat.PW
end
section
namespace Go.Proofs.YtekmngghebpciaaGreat.PW
open Go.RowKit Go.Proofs.YtekmngghebpciaaGreatW.PrintWords Go.Proofs.YtekmngghebpciaaGreatW.PrintLast Go.Proofs.YtekmngghebpciaaGreatW.PrintMore
attribute [local go_sem] max2_int min2_int max_two min_two max_three min_three max_four min_four
set_option linter.unusedVariables false
set_option linter.unusedSimpArgs false
def pick_Draw.f (k : Nat) (a0_0 : Int) (l0_1 : List (S96)) (a1_0 : Int) (l1_1 : List Int) (a1_2 : Int) (a1_3 : List Int) (a1_4 : Int) (a1_5 : Int) (a2 : Int) : Option (Int × Int × List Int × Int × List Int × Int × Int × Int) := (alias_Right.f k a0_0 l0_1).bind fun t375 => (if t375 = true then ((alias_Size.f k a0_0 l0_1).bind fun t376 => ((uniform_Draw.f k a1_0 l1_1 a1_2 a1_3 a1_4 a1_5 t376 a2).bind fun bt377 => (if bt377.2.2.2.2.2.2.2 = 0 then ((alias_Owner.f k a0_0 l0_1 bt377.1).bind fun bt388 => (some (bt388.1, bt377.2.1, bt377.2.2.1, bt377.2.2.2.1, bt377.2.2.2.2.1, bt377.2.2.2.2.2.1, bt377.2.2.2.2.2.2.1, bt388.2))) else (none)))) else (none))
theorem pick_Draw.mono : ∀ a0 a1 a2 a3 a4 a5 a6 a7 a8 k, LeO (pick_Draw.f k a0 a1 a2 a3 a4 a5 a6 a7 a8) (pick_Draw.f (k + 1) a0 a1 a2 a3 a4 a5 a6 a7 a8) := by
 intro a0 a1 a2 a3 a4 a5 a6 a7 a8 k
 unfold pick_Draw.f
 repeat' first
   | (with_reducible exact alias_Owner.mono _ _ _ _)
   | (with_reducible exact alias_Right.mono _ _ _)
   | (with_reducible exact alias_Size.mono _ _ _)
   | (with_reducible exact uniform_Draw.mono _ _ _ _ _ _ _ _ _)
   | (with_reducible exact LeO.refl _)
   | (with_reducible exact LeO.none _)
   | (with_reducible refine LeO.ite ?_ ?_)
   | (with_reducible refine LeO.bind ?_ (fun _ => ?_))
   | exact alias_Owner.mono _ _ _ _
   | exact alias_Right.mono _ _ _
   | exact alias_Size.mono _ _ _
   | exact uniform_Draw.mono _ _ _ _ _ _ _ _ _
   | exact LeO.none _
   | refine LeO.ite ?_ ?_
   | refine LeO.bind ?_ (fun _ => ?_)
def pick_Draw.T3 : Bool × List (List Nat × List Nat) := (true, [([], []), ([], []), ([1], [1]), ([], []), ([0, 2, 3, 2], [0, 2, 3]), ([4], [4]), ([5], [5]), ([5], [5]), ([5], [5]), ([], []), ([6, 4, 0, 1, 2, 3, 4, 5, 6, 9], [6]), ([9, 7, 10, 0, 1, 2, 3, 4, 5, 6, 7, 9, 10], [7, 9]), ([8, 11, 0, 1, 2, 3, 4, 5, 6, 7, 8, 9, 10, 11], [8])])
def pick_Draw.B3 : List Nat := [0, 0, 2, 0, 15, 31, 63, 63, 63, 0, 639, 1791, 4095]
theorem pick_Draw.tab3 : rtab .any (opsOf Tryz.f14 3) = pick_Draw.T3 := by kernel_rfl
theorem pick_Draw.bits3 : waitsOk pick_Draw.T3.2 pick_Draw.B3 = true := by kernel_rfl
set_option maxHeartbeats 8000000 in
set_option maxRecDepth 100000 in
theorem pick_Draw.calls (k : Nat) (a0_0 : Int) (A0_1 : Option Addr) (c0_1 : Nat) (l0_1 : List (S96)) (a1_0 : Int) (P1_1_ : Nat → Prop) (A1_1 : Option Addr) (c1_1 : Nat) (l1_1 : List Int) (a1_2 : Int) (a1_3 : List Int) (a1_4 : Int) (a1_5 : Int) (a2 : Int) (r1 : Int) (r2 : Int) (r3 : List Int) (r4 : Int) (r5 : List Int) (r6 : Int) (r7 : Int) (r8 : Int) (w : World) (hr0_1 : Kd.C k96 w A0_1 l0_1.length l0_1) (hc0_1 : l0_1.length ≤ c0_1) (hs1_1 : Kd.V (Kd.int .u8) 5 w w.heap.size (fun k_ => P1_1_ k_) (.slice A1_1 l1_1.length c1_1) l1_1) (h : pick_Draw.f k a0_0 l0_1 a1_0 l1_1 a1_2 a1_3 a1_4 a1_5 a2 = some (r1, r2, r3, r4, r5, r6, r7, r8)) :
  Calls Tryz.prog 14 #[.agg #[.int .u64 a0_0, .slice A0_1 l0_1.length c0_1], .agg (#[.int .i64 a1_0, .slice A1_1 l1_1.length c1_1, .int .u64 a1_2] ++ (Ar.cells .u8 32 a1_3 ++ #[.int .u64 a1_4, .int .u64 a1_5])), .int .i64 a2] w fun e w' => ∃ v2_ : Value, e = .returned (.tuple #[.int .i64 r1, .agg (#[.int .i64 r2, v2_, .int .u64 r4] ++ (Ar.cells .u8 32 r5 ++ #[.int .u64 r6, .int .u64 r7])), .int .i64 r8]) ∧ Kd.V (Kd.int .u8) 5 w' w.heap.size (fun k_ => (P1_1_ k_ ∨ w.heap.size ≤ k_)) v2_ r3 ∧ Below w.heap.size w w' := by
 have hu30 := Tryz.underlying30
 have hu39 := Tryz.underlying39
 have HR0_1 := Aside0.mk hr0_1
 have HC0_1 := Aside0.mk hc0_1
 clear hr0_1 hc0_1
 have HO1_1 := Aside0.mk (show Kd.V (Kd.int .u8) 5 w w.heap.size (fun k_ => (P1_1_ k_ ∨ w.heap.size ≤ k_)) (.slice A1_1 l1_1.length c1_1) l1_1 from Kd.V_mono hs1_1 (fun k_ hk => .inl hk))
 have HB := Aside0.mk (Below.refl w.heap.size w)
 have H : ((alias_Right.f k a0_0 l0_1).bind fun t375 => (if t375 = true then ((alias_Size.f k a0_0 l0_1).bind fun t376 => ((uniform_Draw.f k a1_0 l1_1 a1_2 a1_3 a1_4 a1_5 t376 a2).bind fun bt377 => (if bt377.2.2.2.2.2.2.2 = 0 then ((alias_Owner.f k a0_0 l0_1 bt377.1).bind fun bt388 => (some (bt388.1, bt377.2.1, bt377.2.2.1, bt377.2.2.2.1, bt377.2.2.2.2.1, bt377.2.2.2.2.2.1, bt377.2.2.2.2.2.2.1, bt388.2))) else (none)))) else (none))) = some (r1, r2, r3, r4, r5, r6, r7, r8) := h
 clear h
 replace H := Option.bind_eq_some_iff.mp H
 obtain ⟨t375, A40, H⟩ := H
 try dsimp only at H
 have A4 := Aside0.mk A40
 clear A40
 by_cases c5 : t375 = true
 ·subst c5
  have H1 : ((alias_Size.f k a0_0 l0_1).bind fun t376 => ((uniform_Draw.f k a1_0 l1_1 a1_2 a1_3 a1_4 a1_5 t376 a2).bind fun bt377 => (if bt377.2.2.2.2.2.2.2 = 0 then ((alias_Owner.f k a0_0 l0_1 bt377.1).bind fun bt388 => (some (bt388.1, bt377.2.1, bt377.2.2.1, bt377.2.2.2.1, bt377.2.2.2.2.1, bt377.2.2.2.2.2.1, bt377.2.2.2.2.2.2.1, bt388.2))) else (none)))) = some (r1, r2, r3, r4, r5, r6, r7, r8) := by rw [if_pos rfl] at H; exact H
  clear H
  have H := H1
  clear H1
  replace H := Option.bind_eq_some_iff.mp H
  obtain ⟨t376, A60, H⟩ := H
  try dsimp only at H
  have A6 := Aside0.mk A60
  clear A60
  replace H := Option.bind_eq_some_iff.mp H
  obtain ⟨⟨t377, t378, t379, t382, t383, t384, t385, t386⟩, A70, H⟩ := H
  try dsimp only at H
  have A7 := Aside0.mk A70
  clear A70
  by_cases c8 : t386 = 0
  ·rw [if_pos c8] at H
   have c8b0 : (t386 == 0) = true := beq_iff_eq.mpr c8
   have c8b1 : (t386 != 0) = false := bne_eq_false_iff_eq.mpr c8
   clear c8
   replace H := Option.bind_eq_some_iff.mp H
   obtain ⟨⟨t388, t389⟩, A90, H⟩ := H
   try dsimp only at H
   have A9 := Aside0.mk A90
   clear A90
   simp only [Option.some.injEq, Prod.mk.injEq] at H
   obtain ⟨rfl, rfl, rfl, rfl, rfl, rfl, rfl, rfl⟩ := H
   go_enter Tryz.func14, Tryz.ntmps14
   try go_wp2_with (first | ((with_reducible refine qd 3 ?_); refine box_event ?hg (N := 3) ?hd (cs := #[.int .u64 a0_0, .slice A0_1 l0_1.length c0_1]) (t := 30) ?hr ?_; (case hd => rfl); (case hg => rfl); (case hr => first | (go_simp; done) | (go_simp; rfl)); intro gb372 hg w10 hbox hb; replace HO1_1 := Aside0.mk (Kd.V_below (Kd.V_elderB (qv HO1_1) gb372 (Nat.le_of_eq hg.symm)) hb); have BK372 := Aside0.mk (hbox); have GW372 := Aside0.mk (qe HB hg); have GE372 := Aside0.mk (qe HB hg); replace HB := Aside0.mk (below_step (qs HB) hb); clear hb hbox hg) | ((with_reducible refine qd 4 ?_); (try (refine gate_guard (by rfl) ?_; dsimp only)); refine qF (N := 4) (cs := (#[.int .i64 a1_0, .slice A1_1 l1_1.length c1_1, .int .u64 a1_2] ++ ((Ar.cells .u8 32 a1_3) ++ #[.int .u64 a1_4, .int .u64 a1_5]))) (t := 39) ?_; intro gb373 hg w11 hbox hb; replace HO1_1 := Aside0.mk (Kd.V_below (Kd.V_elderB (qv HO1_1) gb373 (Nat.le_of_eq hg.symm)) hb); have BK373 := Aside0.mk (hbox); have GW373 := Aside0.mk (qe HB hg); have GE373 := Aside0.mk (qe HB hg); replace HB := Aside0.mk (below_step (qs HB) hb); have NB372_373 := Aside0.mk (qu BK372 hg); have NB373_372 := Aside0.mk (qw BK372 hg); replace BK372 := Aside0.mk (qB BK372 hb); clear hb hbox hg) | ((with_reducible refine qd 7 ?_); (try (refine gate_guard (by rfl) ?_; dsimp only)); refine qF (N := 7) (cs := (#[.int .i64 0, .slice none 0 0, .int .u64 0] ++ ((Ar.cells .u8 32 (List.replicate 32 0)) ++ #[.int .u64 0, .int .u64 0]))) (t := 39) ?_; intro gb374 hg w12 hbox hb; replace HO1_1 := Aside0.mk (Kd.V_below (Kd.V_elderB (qv HO1_1) gb374 (Nat.le_of_eq hg.symm)) hb); have BK374 := Aside0.mk (hbox); have GW374 := Aside0.mk (qe HB hg); have GE374 := Aside0.mk (qe HB hg); replace HB := Aside0.mk (below_step (qs HB) hb); have NB372_374 := Aside0.mk (qu BK372 hg); have NB374_372 := Aside0.mk (qw BK372 hg); replace BK372 := Aside0.mk (qB BK372 hb); have NB373_374 := Aside0.mk (qu BK373 hg); have NB374_373 := Aside0.mk (qw BK373 hg); replace BK373 := Aside0.mk (qB BK373 hb); clear hb hbox hg; have hnb13 := NB372_373.out; have hnc13 := NB373_372.out; have hnb14 := NB372_374.out; have hnc14 := NB374_372.out; have hcz15_0 : w12.cell? ⟨gb372, 0, none⟩ = some (.int .u64 a0_0) := (blk_cell BK372.out 0).trans rfl; have hcz15_1 : w12.cell? ⟨gb372, 1, none⟩ = some (.slice A0_1 l0_1.length c0_1) := (blk_cell BK372.out 1).trans rfl; have hfz15_0 := blk_frozen BK372.out 0; have hfz15_1 := blk_frozen BK372.out 1) | ((with_reducible refine gate_callee (f := 48) rfl ?_); refine goesL_ (some 14) rfl rfl Tryz.func48 (by kernel_rfl) rfl #[.agg #[.int .u64 a0_0, .slice A0_1 l0_1.length c0_1]] rfl ql ?_; (with_reducible refine (alias_Right.calls k a0_0 _ _ l0_1 true _ ?side1 ?side2 A4.out).mono ?_); (case side1 => repeat (first | exact (Kd.C_below HR0_1.out HB.out) | (with_reducible refine Kd.C_alloc ?_ _) | (with_reducible refine Kd.C_drewN ?_ _) | (with_reducible refine Kd.C_drew ?_))); (case side2 => exact HC0_1.out); rintro e w16 ⟨rfl, hb⟩; refine ⟨_, rfl, ?_⟩; replace HO1_1 := Aside0.mk (Kd.V_below (qv HO1_1) hb); replace BK372 := Aside0.mk (qB BK372 hb); replace BK373 := Aside0.mk (qB BK373 hb); replace BK374 := Aside0.mk (qB BK374 hb); replace HB := Aside0.mk (below_step (qs HB) hb); (try clear hb); (try clear hb2); (try clear hk); (try clear hi)))
   replace HO1_1 := Aside0.mk (Kd.V_drew HO1_1.out)
   replace BK372 := Aside0.mk (blk_drew BK372.out)
   replace BK373 := Aside0.mk (blk_drew BK373.out)
   replace BK374 := Aside0.mk (blk_drew BK374.out)
   replace HB := Aside0.mk (below_drew1 HB.out)
   refine start_ (n := 13) (S := fun w' => w'.heap[gb373]? = some (.cells (#[.int .i64 a1_0, .slice A1_1 l1_1.length c1_1, .int .u64 a1_2] ++ ((Ar.cells .u8 32 a1_3) ++ #[.int .u64 a1_4, .int .u64 a1_5])) 39 (0, 0)) ∧ w'.cell? ⟨gb373, 0, none⟩ = some (.int .i64 a1_0) ∧ w'.cell? ⟨gb373, 1, none⟩ = some (.slice A1_1 l1_1.length c1_1) ∧ w'.cell? ⟨gb373, 2, none⟩ = some (.int .u64 a1_2) ∧ w'.cell? ⟨gb373, 35, none⟩ = some (.int .u64 a1_4) ∧ w'.cell? ⟨gb373, 36, none⟩ = some (.int .u64 a1_5) ∧ w'.cell? ⟨gb372, 0, none⟩ = some (.int .u64 a0_0) ∧ w'.cell? ⟨gb372, 1, none⟩ = some (.slice A0_1 l0_1.length c0_1)) (ds := []) #[false, false, false, false, false, false, false, false, false, false, false, false, false] (by kernel_rfl) rfl rfl ⟨BK373.out, (blk_cell BK373.out 0).trans qc, (blk_cell BK373.out 1).trans qc, (blk_cell BK373.out 2).trans qc, (blk_cell BK373.out 35).trans qc, (blk_cell BK373.out 36).trans qc, (blk_cell BK372.out 0).trans rfl, (blk_cell BK372.out 1).trans rfl⟩ (fun hHeld => ?_); refine with_tabW pick_Draw.tab3 pick_Draw.bits3 (fun HT_ HW_ => ?_)
   generalize w16.drew = w17 at HO1_1 BK372 BK373 BK374 HB hHeld ⊢
   refine qQ 3 (some 21) (qt 13 8) (any_of HT_.out (by kernel_rfl)) ?_
   refine take_ (i := 0) (N := some 18) (v := ?_) (a' := ?_) (qt 13 9) rfl rfl (take_ofW HT_.out HW_.out (by kernel_rfl)) (fun _ _ _ h => h) (Or.inl ⟨by rfl, ?_⟩) hHeld ?_ ?_
   rotate_left
   ·rintro w' ⟨s0, s1, s2, s3, s4, s5, s6, s7⟩
    first | (refine (Ar.gload_run rfl Tryz.underlying39 rfl (D := (#[.int .i64 a1_0, .slice A1_1 l1_1.length c1_1, .int .u64 a1_2] ++ ((Ar.cells .u8 32 a1_3) ++ #[.int .u64 a1_4, .int .u64 a1_5]))) qz rfl (Ar.blk_part (by assumption) Ar.in_whole)).trans ?_; with_reducible rfl) | (go_simp; with_reducible rfl)
   rotate_left
   ·simp only [Act.put, zA_, zB_, zC_, i64_w, i32_w]
    rfl
   refine take_ (i := 1) (N := some 19) (v := ?_) (a' := ?_) (qt 13 11) rfl rfl (take_ofW HT_.out HW_.out (by kernel_rfl)) (fun _ _ _ h => h) (Or.inl ⟨by rfl, ?_⟩) hHeld ?_ ?_
   rotate_left
   ·rintro w' ⟨s0, s1, s2, s3, s4, s5, s6, s7⟩
    go_simp
    with_reducible rfl
   rotate_left
   ·simp only [Act.put, zA_, zB_, zC_, i64_w, i32_w]
    rfl
   refine join_ (σ := Value × Nat) 3 (qt 13 1023) (fun s_ => [(20, .int .u64 t376), (22, .tuple #[.int .u64 t377, .agg (#[.int .i64 t378, s_.1, .int .u64 t382] ++ ((Ar.cells .u8 32 t383) ++ #[.int .u64 t384, .int .u64 t385])), .int .i64 t386]), (10, .pointer (some ⟨s_.2, 0, none⟩)), (17, .tuple #[.int .u64 t377, .agg (#[.int .i64 t378, s_.1, .int .u64 t382] ++ ((Ar.cells .u8 32 t383) ++ #[.int .u64 t384, .int .u64 t385])), .int .i64 t386]), (23, .int .u64 t377), (24, .agg (#[.int .i64 t378, s_.1, .int .u64 t382] ++ ((Ar.cells .u8 32 t383) ++ #[.int .u64 t384, .int .u64 t385]))), (25, .int .i64 t386)]) (fun s_ w' => (w'.heap[gb373]? = some (.cells (#[.int .i64 a1_0, .slice A1_1 l1_1.length c1_1, .int .u64 a1_2] ++ ((Ar.cells .u8 32 a1_3) ++ #[.int .u64 a1_4, .int .u64 a1_5])) 39 (0, 0)) ∧ w'.cell? ⟨gb373, 0, none⟩ = some (.int .i64 a1_0) ∧ w'.cell? ⟨gb373, 1, none⟩ = some (.slice A1_1 l1_1.length c1_1) ∧ w'.cell? ⟨gb373, 2, none⟩ = some (.int .u64 a1_2) ∧ w'.cell? ⟨gb373, 35, none⟩ = some (.int .u64 a1_4) ∧ w'.cell? ⟨gb373, 36, none⟩ = some (.int .u64 a1_5) ∧ w'.cell? ⟨gb372, 0, none⟩ = some (.int .u64 a0_0) ∧ w'.cell? ⟨gb372, 1, none⟩ = some (.slice A0_1 l0_1.length c0_1)) ∧ (Kd.V (Kd.int .u8) 5 w' w.heap.size (fun k_ => (P1_1_ k_ ∨ w.heap.size ≤ k_) ∧ k_ ≠ gb372 ∧ k_ ≠ gb373 ∧ k_ ≠ gb374 ∧ k_ ≠ s_.2) (.slice A1_1 l1_1.length c1_1) l1_1) ∧ (Kd.V (Kd.int .u8) 5 w' w.heap.size (fun k_ => (P1_1_ k_ ∨ w.heap.size ≤ k_) ∧ k_ ≠ gb372 ∧ k_ ≠ gb373 ∧ k_ ≠ gb374 ∧ k_ ≠ s_.2) s_.1 t379) ∧ (w'.heap[gb372]? = some (.cells #[.int .u64 a0_0, .slice A0_1 l0_1.length c0_1] 30 (0, 0))) ∧ (w'.heap[gb373]? = some (.cells (#[.int .i64 a1_0, .slice A1_1 l1_1.length c1_1, .int .u64 a1_2] ++ ((Ar.cells .u8 32 a1_3) ++ #[.int .u64 a1_4, .int .u64 a1_5])) 39 (0, 0))) ∧ (w'.heap[gb374]? = some (.cells (#[.int .i64 0, .slice none 0 0, .int .u64 0] ++ ((Ar.cells .u8 32 (List.replicate 32 0)) ++ #[.int .u64 0, .int .u64 0])) 39 (0, 0))) ∧ (w'.heap[s_.2]? = some (.cells (#[.int .i64 0, .slice none 0 0, .int .u64 0] ++ ((Ar.cells .u8 32 (List.replicate 32 0)) ++ #[.int .u64 0, .int .u64 0])) 39 (0, 0))) ∧ (w.heap.size ≤ s_.2) ∧ (w.heap.size ≤ s_.2) ∧ (gb372 ≠ s_.2) ∧ (s_.2 ≠ gb372) ∧ (gb373 ≠ s_.2) ∧ (s_.2 ≠ gb373) ∧ (gb374 ≠ s_.2) ∧ (s_.2 ≠ gb374) ∧ (Below w.heap.size w w')) ?_ ?_
   rotate_left
   ·intro hCont
    refine two_ (i := 2) (j := 9) (Ni := some 20) (Nj := some 10) (qt 13 15) (qt 13 523) rfl rfl rfl rfl (two_of HT_.out (by kernel_rfl)) (by decide) (by decide) (fun K hK => ?_) (fun K hK => ?_)
    ·skip
     refine goes_ Tryz.func49 (by kernel_rfl) rfl #[.agg #[.int .u64 a0_0, .slice A0_1 l0_1.length c0_1]] (by rfl) rfl rfl ql ?_
     with_reducible refine (alias_Size.calls k a0_0 _ _ l0_1 t376 _ ?side1 ?side2 A6.out).mono ?_
     (case side1 => repeat (first | exact (Kd.C_below HR0_1.out HB.out) | (with_reducible refine Kd.C_alloc ?_ _) | (with_reducible refine Kd.C_drewN ?_ _) | (with_reducible refine Kd.C_drew ?_)))
     (case side2 => exact HC0_1.out)
     rintro e w18 ⟨rfl, hb⟩
     refine ⟨_, rfl, ?_⟩
     replace HO1_1 := Aside0.mk (Kd.V_below (qv HO1_1) hb)
     replace BK372 := Aside0.mk (qB BK372 hb)
     replace BK373 := Aside0.mk (qB BK373 hb)
     replace BK374 := Aside0.mk (qB BK374 hb)
     replace HB := Aside0.mk (below_step (qs HB) hb)
     (try clear hb)
     (try clear hb2)
     (try clear hk)
     (try clear hi)
     refine hK.out _ _ ⟨BK373.out, (blk_cell BK373.out 0).trans qc, (blk_cell BK373.out 1).trans qc, (blk_cell BK373.out 2).trans qc, (blk_cell BK373.out 35).trans qc, (blk_cell BK373.out 36).trans qc, (blk_cell BK372.out 0).trans rfl, (blk_cell BK372.out 1).trans rfl⟩ (fun hHeld => ?_)
     clear hK K
     refine norm_ (a' := ?_) ?_ ?_
     rotate_left
     ·show Act.put _ (some 20) _ = _
      simp only [Act.put, zA_, zB_, zC_, i64_w, i32_w]
      rfl
     refine two_ (i := 4) (j := 9) (Ni := some 22) (Nj := some 10) (qt 13 31) (qt 13 527) rfl rfl rfl rfl (two_of HT_.out (by kernel_rfl)) (by decide) (by decide) (fun K hK => ?_) (fun K hK => ?_)
     ·skip
      refine goes_ Tryz.func38 (by kernel_rfl) rfl #[.agg (#[.int .i64 a1_0, .slice A1_1 l1_1.length c1_1, .int .u64 a1_2] ++ ((Ar.cells .u8 32 a1_3) ++ #[.int .u64 a1_4, .int .u64 a1_5])), .int .u64 t376, .int .i64 a2] (by rfl) rfl rfl ql ?_
      with_reducible refine (uniform_Draw.calls k a1_0 (fun k_ => ((((P1_1_ k_ ∨ w.heap.size ≤ k_) ∧ k_ ≠ gb372) ∧ k_ ≠ gb373) ∧ k_ ≠ gb374)) _ _ l1_1 a1_2 a1_3 a1_4 a1_5 t376 a2 t377 t378 t379 t382 t383 t384 t385 t386 _ ?side1 A7.out).mono ?_
      (case side1 => exact HO1_1.out)
      rintro e w19 ⟨v380, rfl, ho0, hb⟩
      refine ⟨_, rfl, ?_⟩
      replace HO1_1 := Aside0.mk (Kd.V_below (qv HO1_1) hb)
      have HO381 := Aside0.mk (Kd.V_lower (Kd.V_mono (ok' := fun k_ => (P1_1_ k_ ∨ w.heap.size ≤ k_) ∧ k_ ≠ gb372 ∧ k_ ≠ gb373 ∧ k_ ≠ gb374) ho0 (fun k_ hk_ => ⟨Or.elim hk_ (fun hs_ => hs_.1.1.1) (fun hn_ => (.inr (Nat.le_trans (below_size (qs HB)) hn_))), Or.elim hk_ (fun hs_ => hs_.1.1.2) (fun hn_ => (Kd.freshB (g := gb372) (o := .cells #[.int .u64 a0_0, .slice A0_1 l0_1.length c0_1] 30 (0, 0)) (qb BK372) k_ hn_)), Or.elim hk_ (fun hs_ => hs_.1.2) (fun hn_ => (Kd.freshB (g := gb373) (o := .cells (#[.int .i64 a1_0, .slice A1_1 l1_1.length c1_1, .int .u64 a1_2] ++ ((Ar.cells .u8 32 a1_3) ++ #[.int .u64 a1_4, .int .u64 a1_5])) 39 (0, 0)) (qb BK373) k_ hn_)), Or.elim hk_ (fun hs_ => hs_.2) (fun hn_ => (Kd.freshB (g := gb374) (o := .cells (#[.int .i64 0, .slice none 0 0, .int .u64 0] ++ ((Ar.cells .u8 32 (List.replicate 32 0)) ++ #[.int .u64 0, .int .u64 0])) 39 (0, 0)) (qb BK374) k_ hn_))⟩)) (below_size (qs HB)))
      replace BK372 := Aside0.mk (qB BK372 hb)
      replace BK373 := Aside0.mk (qB BK373 hb)
      replace BK374 := Aside0.mk (qB BK374 hb)
      replace HB := Aside0.mk (below_step (qs HB) hb)
      (try clear hb)
      (try clear hb2)
      (try clear hk)
      (try clear hi)
      (try clear ho0)
      refine hK.out _ _ ⟨BK373.out, (blk_cell BK373.out 0).trans qc, (blk_cell BK373.out 1).trans qc, (blk_cell BK373.out 2).trans qc, (blk_cell BK373.out 35).trans qc, (blk_cell BK373.out 36).trans qc, (blk_cell BK372.out 0).trans rfl, (blk_cell BK372.out 1).trans rfl⟩ (fun hHeld => ?_)
      clear hK K
      refine norm_ (a' := ?_) ?_ ?_
      rotate_left
      ·show Act.put _ (some 22) _ = _
       simp only [Act.put, zA_, zB_, zC_, i64_w, i32_w]
       rfl
      refine qQ 5 (some 17) (qt 13 63) (any_of HT_.out (by kernel_rfl)) ?_
      refine qQ 6 (some 23) (qt 13 127) (any_of HT_.out (by kernel_rfl)) ?_
      refine qQ 7 (some 24) (qt 13 255) (any_of HT_.out (by kernel_rfl)) ?_
      refine qQ 8 (some 25) (qt 13 511) (any_of HT_.out (by kernel_rfl)) ?_
      refine one_ (i := 9) (N := some 10) (qt 13 1023) rfl rfl (one_of HT_.out (by kernel_rfl)) (by decide) (fun K hK => ?_)
      refine box_step ?hg (N := 10) ?hd (cs := (#[.int .i64 0, .slice none 0 0, .int .u64 0] ++ ((Ar.cells .u8 32 (List.replicate 32 0)) ++ #[.int .u64 0, .int .u64 0]))) (t := 39) ?hr ?_; (case hd => rfl); (case hg => rfl); (case hr => first | exact Ar.gbox_run rfl rfl | exact Ar.galloc_run rfl (by kernel_rfl) | (go_simp; done) | (go_simp; rfl))
      intro gb387 hg w20 hbox hb
      replace HO1_1 := Aside0.mk (Kd.V_below (Kd.V_elderB (qv HO1_1) gb387 (Nat.le_of_eq hg.symm)) hb)
      replace HO381 := Aside0.mk (Kd.V_below (Kd.V_elderB (qv HO381) gb387 (Nat.le_of_eq hg.symm)) hb)
      have BK387 := Aside0.mk (hbox)
      have GW387 := Aside0.mk (qe HB hg)
      have GE387 := Aside0.mk (qe HB hg)
      replace HB := Aside0.mk (below_step (qs HB) hb)
      have NB372_387 := Aside0.mk (qu BK372 hg)
      have NB387_372 := Aside0.mk (qw BK372 hg)
      replace BK372 := Aside0.mk (qB BK372 hb)
      have NB373_387 := Aside0.mk (qu BK373 hg)
      have NB387_373 := Aside0.mk (qw BK373 hg)
      replace BK373 := Aside0.mk (qB BK373 hb)
      have NB374_387 := Aside0.mk (qu BK374 hg)
      have NB387_374 := Aside0.mk (qw BK374 hg)
      replace BK374 := Aside0.mk (qB BK374 hb)
      clear hb hbox hg
      refine hK.out _ _ ⟨BK373.out, (blk_cell BK373.out 0).trans qc, (blk_cell BK373.out 1).trans qc, (blk_cell BK373.out 2).trans qc, (blk_cell BK373.out 35).trans qc, (blk_cell BK373.out 36).trans qc, (blk_cell BK372.out 0).trans rfl, (blk_cell BK372.out 1).trans rfl⟩ (fun hHeld => ?_)
      clear hK K
      refine norm_ (a' := ?_) ?_ ?_
      rotate_left
      ·show Act.put _ (some 10) _ = _
       simp only [Act.put, zA_, zB_, zC_, i64_w, i32_w]
       rfl
      exact norm_ (by simp only [putAll, Act.put, zA_, zB_, zC_]) (hCont (v380, gb387) _ ⟨hHeld, (by (with_reducible repeat (first | apply Kd.V_alloc | apply Kd.V_drewN | apply Kd.V_drew)); exact Kd.V_mono HO1_1.out (fun _ hk => ⟨hk.1.1.1.1, ⟨hk.1.1.1.2, ⟨hk.1.1.2, ⟨hk.1.2, hk.2⟩⟩⟩⟩)), (by (with_reducible repeat (first | apply Kd.V_alloc | apply Kd.V_drewN | apply Kd.V_drew)); exact Kd.V_mono HO381.out (fun _ hk => ⟨hk.1.1, ⟨hk.1.2.1, ⟨hk.1.2.2.1, ⟨hk.1.2.2.2, hk.2⟩⟩⟩⟩)), (qb BK372), (qb BK373), (qb BK374), (qb BK387), GW387.out, GE387.out, NB372_387.out, NB387_372.out, NB373_387.out, NB387_373.out, NB374_387.out, NB387_374.out, (qs HB)⟩)
     ·skip
      refine box_step ?hg (N := 10) ?hd (cs := (#[.int .i64 0, .slice none 0 0, .int .u64 0] ++ ((Ar.cells .u8 32 (List.replicate 32 0)) ++ #[.int .u64 0, .int .u64 0]))) (t := 39) ?hr ?_; (case hd => rfl); (case hg => rfl); (case hr => first | exact Ar.gbox_run rfl rfl | exact Ar.galloc_run rfl (by kernel_rfl) | (go_simp; done) | (go_simp; rfl))
      intro gb387 hg w19 hbox hb
      replace HO1_1 := Aside0.mk (Kd.V_below (Kd.V_elderB (qv HO1_1) gb387 (Nat.le_of_eq hg.symm)) hb)
      have BK387 := Aside0.mk (hbox)
      have GW387 := Aside0.mk (qe HB hg)
      have GE387 := Aside0.mk (qe HB hg)
      replace HB := Aside0.mk (below_step (qs HB) hb)
      have NB372_387 := Aside0.mk (qu BK372 hg)
      have NB387_372 := Aside0.mk (qw BK372 hg)
      replace BK372 := Aside0.mk (qB BK372 hb)
      have NB373_387 := Aside0.mk (qu BK373 hg)
      have NB387_373 := Aside0.mk (qw BK373 hg)
      replace BK373 := Aside0.mk (qB BK373 hb)
      have NB374_387 := Aside0.mk (qu BK374 hg)
      have NB387_374 := Aside0.mk (qw BK374 hg)
      replace BK374 := Aside0.mk (qB BK374 hb)
      clear hb hbox hg
      refine hK.out _ _ ⟨BK373.out, (blk_cell BK373.out 0).trans qc, (blk_cell BK373.out 1).trans qc, (blk_cell BK373.out 2).trans qc, (blk_cell BK373.out 35).trans qc, (blk_cell BK373.out 36).trans qc, (blk_cell BK372.out 0).trans rfl, (blk_cell BK372.out 1).trans rfl⟩ (fun hHeld => ?_)
      clear hK K
      refine norm_ (a' := ?_) ?_ ?_
      rotate_left
      ·show Act.put _ (some 10) _ = _
       simp only [Act.put, zA_, zB_, zC_, i64_w, i32_w]
       rfl
      refine one_ (i := 4) (N := some 22) (qt 13 543) rfl rfl (one_of HT_.out (by kernel_rfl)) (by decide) (fun K hK => ?_)
      refine goes_ Tryz.func38 (by kernel_rfl) rfl #[.agg (#[.int .i64 a1_0, .slice A1_1 l1_1.length c1_1, .int .u64 a1_2] ++ ((Ar.cells .u8 32 a1_3) ++ #[.int .u64 a1_4, .int .u64 a1_5])), .int .u64 t376, .int .i64 a2] (by rfl) rfl rfl ql ?_
      with_reducible refine (uniform_Draw.calls k a1_0 (fun k_ => (((((P1_1_ k_ ∨ w.heap.size ≤ k_) ∧ k_ ≠ gb372) ∧ k_ ≠ gb373) ∧ k_ ≠ gb374) ∧ k_ ≠ gb387)) _ _ l1_1 a1_2 a1_3 a1_4 a1_5 t376 a2 t377 t378 t379 t382 t383 t384 t385 t386 _ ?side1 A7.out).mono ?_
      (case side1 => exact HO1_1.out)
      rintro e w20 ⟨v380, rfl, ho0, hb⟩
      refine ⟨_, rfl, ?_⟩
      replace HO1_1 := Aside0.mk (Kd.V_below (qv HO1_1) hb)
      have HO381 := Aside0.mk (Kd.V_lower (Kd.V_mono (ok' := fun k_ => (P1_1_ k_ ∨ w.heap.size ≤ k_) ∧ k_ ≠ gb372 ∧ k_ ≠ gb373 ∧ k_ ≠ gb374 ∧ k_ ≠ gb387) ho0 (fun k_ hk_ => ⟨Or.elim hk_ (fun hs_ => hs_.1.1.1.1) (fun hn_ => (.inr (Nat.le_trans (below_size (qs HB)) hn_))), Or.elim hk_ (fun hs_ => hs_.1.1.1.2) (fun hn_ => (Kd.freshB (g := gb372) (o := .cells #[.int .u64 a0_0, .slice A0_1 l0_1.length c0_1] 30 (0, 0)) (qb BK372) k_ hn_)), Or.elim hk_ (fun hs_ => hs_.1.1.2) (fun hn_ => (Kd.freshB (g := gb373) (o := .cells (#[.int .i64 a1_0, .slice A1_1 l1_1.length c1_1, .int .u64 a1_2] ++ ((Ar.cells .u8 32 a1_3) ++ #[.int .u64 a1_4, .int .u64 a1_5])) 39 (0, 0)) (qb BK373) k_ hn_)), Or.elim hk_ (fun hs_ => hs_.1.2) (fun hn_ => (Kd.freshB (g := gb374) (o := .cells (#[.int .i64 0, .slice none 0 0, .int .u64 0] ++ ((Ar.cells .u8 32 (List.replicate 32 0)) ++ #[.int .u64 0, .int .u64 0])) 39 (0, 0)) (qb BK374) k_ hn_)), Or.elim hk_ (fun hs_ => hs_.2) (fun hn_ => (Kd.freshB (g := gb387) (o := .cells (#[.int .i64 0, .slice none 0 0, .int .u64 0] ++ ((Ar.cells .u8 32 (List.replicate 32 0)) ++ #[.int .u64 0, .int .u64 0])) 39 (0, 0)) (qb BK387) k_ hn_))⟩)) (below_size (qs HB)))
      replace BK372 := Aside0.mk (qB BK372 hb)
      replace BK373 := Aside0.mk (qB BK373 hb)
      replace BK374 := Aside0.mk (qB BK374 hb)
      replace BK387 := Aside0.mk (qB BK387 hb)
      replace HB := Aside0.mk (below_step (qs HB) hb)
      (try clear hb)
      (try clear hb2)
      (try clear hk)
      (try clear hi)
      (try clear ho0)
      refine hK.out _ _ ⟨BK373.out, (blk_cell BK373.out 0).trans qc, (blk_cell BK373.out 1).trans qc, (blk_cell BK373.out 2).trans qc, (blk_cell BK373.out 35).trans qc, (blk_cell BK373.out 36).trans qc, (blk_cell BK372.out 0).trans rfl, (blk_cell BK372.out 1).trans rfl⟩ (fun hHeld => ?_)
      clear hK K
      refine norm_ (a' := ?_) ?_ ?_
      rotate_left
      ·show Act.put _ (some 22) _ = _
       simp only [Act.put, zA_, zB_, zC_, i64_w, i32_w]
       rfl
      refine qQ 5 (some 17) (qt 13 575) (any_of HT_.out (by kernel_rfl)) ?_
      refine qQ 6 (some 23) (qt 13 639) (any_of HT_.out (by kernel_rfl)) ?_
      refine qQ 7 (some 24) (qt 13 767) (any_of HT_.out (by kernel_rfl)) ?_
      refine qQ 8 (some 25) (qt 13 1023) (any_of HT_.out (by kernel_rfl)) ?_
      exact norm_ (by simp only [putAll, Act.put, zA_, zB_, zC_]) (hCont (v380, gb387) _ ⟨hHeld, (by (with_reducible repeat (first | apply Kd.V_alloc | apply Kd.V_drewN | apply Kd.V_drew)); exact Kd.V_mono HO1_1.out (fun _ hk => ⟨hk.1.1.1.1, ⟨hk.1.1.1.2, ⟨hk.1.1.2, ⟨hk.1.2, hk.2⟩⟩⟩⟩)), (qv HO381), (qb BK372), (qb BK373), (qb BK374), (qb BK387), GW387.out, GE387.out, NB372_387.out, NB387_372.out, NB373_387.out, NB387_373.out, NB374_387.out, NB387_374.out, (qs HB)⟩)
    ·skip
     refine box_step ?hg (N := 10) ?hd (cs := (#[.int .i64 0, .slice none 0 0, .int .u64 0] ++ ((Ar.cells .u8 32 (List.replicate 32 0)) ++ #[.int .u64 0, .int .u64 0]))) (t := 39) ?hr ?_; (case hd => rfl); (case hg => rfl); (case hr => first | exact Ar.gbox_run rfl rfl | exact Ar.galloc_run rfl (by kernel_rfl) | (go_simp; done) | (go_simp; rfl))
     intro gb387 hg w18 hbox hb
     replace HO1_1 := Aside0.mk (Kd.V_below (Kd.V_elderB (qv HO1_1) gb387 (Nat.le_of_eq hg.symm)) hb)
     have BK387 := Aside0.mk (hbox)
     have GW387 := Aside0.mk (qe HB hg)
     have GE387 := Aside0.mk (qe HB hg)
     replace HB := Aside0.mk (below_step (qs HB) hb)
     have NB372_387 := Aside0.mk (qu BK372 hg)
     have NB387_372 := Aside0.mk (qw BK372 hg)
     replace BK372 := Aside0.mk (qB BK372 hb)
     have NB373_387 := Aside0.mk (qu BK373 hg)
     have NB387_373 := Aside0.mk (qw BK373 hg)
     replace BK373 := Aside0.mk (qB BK373 hb)
     have NB374_387 := Aside0.mk (qu BK374 hg)
     have NB387_374 := Aside0.mk (qw BK374 hg)
     replace BK374 := Aside0.mk (qB BK374 hb)
     clear hb hbox hg
     refine hK.out _ _ ⟨BK373.out, (blk_cell BK373.out 0).trans qc, (blk_cell BK373.out 1).trans qc, (blk_cell BK373.out 2).trans qc, (blk_cell BK373.out 35).trans qc, (blk_cell BK373.out 36).trans qc, (blk_cell BK372.out 0).trans rfl, (blk_cell BK372.out 1).trans rfl⟩ (fun hHeld => ?_)
     clear hK K
     refine norm_ (a' := ?_) ?_ ?_
     rotate_left
     ·show Act.put _ (some 10) _ = _
      simp only [Act.put, zA_, zB_, zC_, i64_w, i32_w]
      rfl
     refine one_ (i := 2) (N := some 20) (qt 13 527) rfl rfl (one_of HT_.out (by kernel_rfl)) (by decide) (fun K hK => ?_)
     refine goes_ Tryz.func49 (by kernel_rfl) rfl #[.agg #[.int .u64 a0_0, .slice A0_1 l0_1.length c0_1]] (by rfl) rfl rfl ql ?_
     with_reducible refine (alias_Size.calls k a0_0 _ _ l0_1 t376 _ ?side1 ?side2 A6.out).mono ?_
     (case side1 => repeat (first | exact (Kd.C_below HR0_1.out HB.out) | (with_reducible refine Kd.C_alloc ?_ _) | (with_reducible refine Kd.C_drewN ?_ _) | (with_reducible refine Kd.C_drew ?_)))
     (case side2 => exact HC0_1.out)
     rintro e w19 ⟨rfl, hb⟩
     refine ⟨_, rfl, ?_⟩
     replace HO1_1 := Aside0.mk (Kd.V_below (qv HO1_1) hb)
     replace BK372 := Aside0.mk (qB BK372 hb)
     replace BK373 := Aside0.mk (qB BK373 hb)
     replace BK374 := Aside0.mk (qB BK374 hb)
     replace BK387 := Aside0.mk (qB BK387 hb)
     replace HB := Aside0.mk (below_step (qs HB) hb)
     (try clear hb)
     (try clear hb2)
     (try clear hk)
     (try clear hi)
     refine hK.out _ _ ⟨BK373.out, (blk_cell BK373.out 0).trans qc, (blk_cell BK373.out 1).trans qc, (blk_cell BK373.out 2).trans qc, (blk_cell BK373.out 35).trans qc, (blk_cell BK373.out 36).trans qc, (blk_cell BK372.out 0).trans rfl, (blk_cell BK372.out 1).trans rfl⟩ (fun hHeld => ?_)
     clear hK K
     refine norm_ (a' := ?_) ?_ ?_
     rotate_left
     ·show Act.put _ (some 20) _ = _
      simp only [Act.put, zA_, zB_, zC_, i64_w, i32_w]
      rfl
     refine one_ (i := 4) (N := some 22) (qt 13 543) rfl rfl (one_of HT_.out (by kernel_rfl)) (by decide) (fun K hK => ?_)
     refine goes_ Tryz.func38 (by kernel_rfl) rfl #[.agg (#[.int .i64 a1_0, .slice A1_1 l1_1.length c1_1, .int .u64 a1_2] ++ ((Ar.cells .u8 32 a1_3) ++ #[.int .u64 a1_4, .int .u64 a1_5])), .int .u64 t376, .int .i64 a2] (by rfl) rfl rfl ql ?_
     with_reducible refine (uniform_Draw.calls k a1_0 (fun k_ => (((((P1_1_ k_ ∨ w.heap.size ≤ k_) ∧ k_ ≠ gb372) ∧ k_ ≠ gb373) ∧ k_ ≠ gb374) ∧ k_ ≠ gb387)) _ _ l1_1 a1_2 a1_3 a1_4 a1_5 t376 a2 t377 t378 t379 t382 t383 t384 t385 t386 _ ?side1 A7.out).mono ?_
     (case side1 => exact HO1_1.out)
     rintro e w20 ⟨v380, rfl, ho0, hb⟩
     refine ⟨_, rfl, ?_⟩
     replace HO1_1 := Aside0.mk (Kd.V_below (qv HO1_1) hb)
     have HO381 := Aside0.mk (Kd.V_lower (Kd.V_mono (ok' := fun k_ => (P1_1_ k_ ∨ w.heap.size ≤ k_) ∧ k_ ≠ gb372 ∧ k_ ≠ gb373 ∧ k_ ≠ gb374 ∧ k_ ≠ gb387) ho0 (fun k_ hk_ => ⟨Or.elim hk_ (fun hs_ => hs_.1.1.1.1) (fun hn_ => (.inr (Nat.le_trans (below_size (qs HB)) hn_))), Or.elim hk_ (fun hs_ => hs_.1.1.1.2) (fun hn_ => (Kd.freshB (g := gb372) (o := .cells #[.int .u64 a0_0, .slice A0_1 l0_1.length c0_1] 30 (0, 0)) (qb BK372) k_ hn_)), Or.elim hk_ (fun hs_ => hs_.1.1.2) (fun hn_ => (Kd.freshB (g := gb373) (o := .cells (#[.int .i64 a1_0, .slice A1_1 l1_1.length c1_1, .int .u64 a1_2] ++ ((Ar.cells .u8 32 a1_3) ++ #[.int .u64 a1_4, .int .u64 a1_5])) 39 (0, 0)) (qb BK373) k_ hn_)), Or.elim hk_ (fun hs_ => hs_.1.2) (fun hn_ => (Kd.freshB (g := gb374) (o := .cells (#[.int .i64 0, .slice none 0 0, .int .u64 0] ++ ((Ar.cells .u8 32 (List.replicate 32 0)) ++ #[.int .u64 0, .int .u64 0])) 39 (0, 0)) (qb BK374) k_ hn_)), Or.elim hk_ (fun hs_ => hs_.2) (fun hn_ => (Kd.freshB (g := gb387) (o := .cells (#[.int .i64 0, .slice none 0 0, .int .u64 0] ++ ((Ar.cells .u8 32 (List.replicate 32 0)) ++ #[.int .u64 0, .int .u64 0])) 39 (0, 0)) (qb BK387) k_ hn_))⟩)) (below_size (qs HB)))
     replace BK372 := Aside0.mk (qB BK372 hb)
     replace BK373 := Aside0.mk (qB BK373 hb)
     replace BK374 := Aside0.mk (qB BK374 hb)
     replace BK387 := Aside0.mk (qB BK387 hb)
     replace HB := Aside0.mk (below_step (qs HB) hb)
     (try clear hb)
     (try clear hb2)
     (try clear hk)
     (try clear hi)
     (try clear ho0)
     refine hK.out _ _ ⟨BK373.out, (blk_cell BK373.out 0).trans qc, (blk_cell BK373.out 1).trans qc, (blk_cell BK373.out 2).trans qc, (blk_cell BK373.out 35).trans qc, (blk_cell BK373.out 36).trans qc, (blk_cell BK372.out 0).trans rfl, (blk_cell BK372.out 1).trans rfl⟩ (fun hHeld => ?_)
     clear hK K
     refine norm_ (a' := ?_) ?_ ?_
     rotate_left
     ·show Act.put _ (some 22) _ = _
      simp only [Act.put, zA_, zB_, zC_, i64_w, i32_w]
      rfl
     refine qQ 5 (some 17) (qt 13 575) (any_of HT_.out (by kernel_rfl)) ?_
     refine qQ 6 (some 23) (qt 13 639) (any_of HT_.out (by kernel_rfl)) ?_
     refine qQ 7 (some 24) (qt 13 767) (any_of HT_.out (by kernel_rfl)) ?_
     refine qQ 8 (some 25) (qt 13 1023) (any_of HT_.out (by kernel_rfl)) ?_
     exact norm_ (by simp only [putAll, Act.put, zA_, zB_, zC_]) (hCont (v380, gb387) _ ⟨hHeld, (by (with_reducible repeat (first | apply Kd.V_alloc | apply Kd.V_drewN | apply Kd.V_drew)); exact Kd.V_mono HO1_1.out (fun _ hk => ⟨hk.1.1.1.1, ⟨hk.1.1.1.2, ⟨hk.1.1.2, ⟨hk.1.2, hk.2⟩⟩⟩⟩)), (qv HO381), (qb BK372), (qb BK373), (qb BK374), (qb BK387), GW387.out, GE387.out, NB372_387.out, NB387_372.out, NB373_387.out, NB387_373.out, NB374_387.out, NB387_374.out, (qs HB)⟩)
   rintro ⟨v380, gb387⟩ w21 ⟨hS_, h0_, h1_, h2_, h3_, h4_, h5_, h6_, h7_, h8_, h9_, h10_, h11_, h12_, h13_, h14_⟩
   have n0_ : Aside0 (Kd.V (Kd.int .u8) 5 w21 w.heap.size (fun k_ => (P1_1_ k_ ∨ w.heap.size ≤ k_) ∧ k_ ≠ gb372 ∧ k_ ≠ gb373 ∧ k_ ≠ gb374 ∧ k_ ≠ gb387) (.slice A1_1 l1_1.length c1_1) l1_1) := ⟨h0_⟩
   have n1_ : Aside0 (Kd.V (Kd.int .u8) 5 w21 w.heap.size (fun k_ => (P1_1_ k_ ∨ w.heap.size ≤ k_) ∧ k_ ≠ gb372 ∧ k_ ≠ gb373 ∧ k_ ≠ gb374 ∧ k_ ≠ gb387) v380 t379) := ⟨h1_⟩
   have n2_ : Aside0 (w21.heap[gb372]? = some (.cells #[.int .u64 a0_0, .slice A0_1 l0_1.length c0_1] 30 (0, 0))) := ⟨h2_⟩
   have n3_ : Aside0 (w21.heap[gb373]? = some (.cells (#[.int .i64 a1_0, .slice A1_1 l1_1.length c1_1, .int .u64 a1_2] ++ ((Ar.cells .u8 32 a1_3) ++ #[.int .u64 a1_4, .int .u64 a1_5])) 39 (0, 0))) := ⟨h3_⟩
   have n4_ : Aside0 (w21.heap[gb374]? = some (.cells (#[.int .i64 0, .slice none 0 0, .int .u64 0] ++ ((Ar.cells .u8 32 (List.replicate 32 0)) ++ #[.int .u64 0, .int .u64 0])) 39 (0, 0))) := ⟨h4_⟩
   have n5_ : Aside0 (w21.heap[gb387]? = some (.cells (#[.int .i64 0, .slice none 0 0, .int .u64 0] ++ ((Ar.cells .u8 32 (List.replicate 32 0)) ++ #[.int .u64 0, .int .u64 0])) 39 (0, 0))) := ⟨h5_⟩
   have n6_ : Aside0 (w.heap.size ≤ gb387) := ⟨h6_⟩
   have n7_ : Aside0 (w.heap.size ≤ gb387) := ⟨h7_⟩
   have n8_ : Aside0 (gb372 ≠ gb387) := ⟨h8_⟩
   have n9_ : Aside0 (gb387 ≠ gb372) := ⟨h9_⟩
   have n10_ : Aside0 (gb373 ≠ gb387) := ⟨h10_⟩
   have n11_ : Aside0 (gb387 ≠ gb373) := ⟨h11_⟩
   have n12_ : Aside0 (gb374 ≠ gb387) := ⟨h12_⟩
   have n13_ : Aside0 (gb387 ≠ gb374) := ⟨h13_⟩
   have n14_ : Aside0 (Below w.heap.size w w21) := ⟨h14_⟩
   clear HO1_1 BK372 BK373 BK374 HB h0_ h1_ h2_ h3_ h4_ h5_ h6_ h7_ h8_ h9_ h10_ h11_ h12_ h13_ h14_
   have HO1_1 := n0_
   have HO381 := n1_
   have BK372 := n2_
   have BK373 := n3_
   have BK374 := n4_
   have BK387 := n5_
   have GW387 := n6_
   have GE387 := n7_
   have NB372_387 := n8_
   have NB387_372 := n9_
   have NB373_387 := n10_
   have NB387_373 := n11_
   have NB374_387 := n12_
   have NB387_374 := n13_
   have HB := n14_
   clear n0_ n1_ n2_ n3_ n4_ n5_ n6_ n7_ n8_ n9_ n10_ n11_ n12_ n13_ n14_
   have hHeld : w21.heap[gb373]? = some (.cells (#[.int .i64 a1_0, .slice A1_1 l1_1.length c1_1, .int .u64 a1_2] ++ ((Ar.cells .u8 32 a1_3) ++ #[.int .u64 a1_4, .int .u64 a1_5])) 39 (0, 0)) ∧ w21.cell? ⟨gb373, 0, none⟩ = some (.int .i64 a1_0) ∧ w21.cell? ⟨gb373, 1, none⟩ = some (.slice A1_1 l1_1.length c1_1) ∧ w21.cell? ⟨gb373, 2, none⟩ = some (.int .u64 a1_2) ∧ w21.cell? ⟨gb373, 35, none⟩ = some (.int .u64 a1_4) ∧ w21.cell? ⟨gb373, 36, none⟩ = some (.int .u64 a1_5) ∧ w21.cell? ⟨gb372, 0, none⟩ = some (.int .u64 a0_0) ∧ w21.cell? ⟨gb372, 1, none⟩ = some (.slice A0_1 l0_1.length c0_1) := hS_
   refine norm_ (a' := ?_) ?_ ?_
   rotate_left
   ·simp only [putAll, Act.put, zA_, zB_, zC_]
    rfl
   refine qQ 10 (some 9) (qt 13 2047) (any_of HT_.out (by kernel_rfl)) ?_
   refine one_ (i := 11) (N := none) (qt 13 4095) rfl rfl (one_of HT_.out (by kernel_rfl)) (by decide) (fun K hK => ?_)
   refine Ar.gstore_step (by rfl) rfl rfl (D := (#[.int .i64 t378, v380, .int .u64 t382] ++ ((Ar.cells .u8 32 t383) ++ #[.int .u64 t384, .int .u64 t385]))) qz (g := gb387) rfl qg (qb BK387) (by simp [Ar.cells_size]) (by repeat (first | (with_reducible refine Ar.all_app ?_ ?_) | (with_reducible exact Ar.cells_one _ _ _) | (focus (simp [Value.oneCell']; done)) | (focus (simp [(show (v380 : Value).oneCell' = true from by (have e_ := Kd.V_slice HO381.out; obtain ⟨_, _, e_⟩ := e_; rw [e_]; rfl))]; first | done | rfl | (repeat' constructor))) | rfl)) ?_; intro w22 hbk_ hg
   replace HO1_1 := Aside0.mk (Kd.V_grown (qv HO1_1) hg (by intro k_ hk e_; exact (hk.2.2.2.2) (Option.some.inj e_)))
   replace BK372 := Aside0.mk (qG BK372 hg (fun e_ => NB372_387.out (Option.some.inj e_)))
   replace BK373 := Aside0.mk (qG BK373 hg (fun e_ => NB373_387.out (Option.some.inj e_)))
   replace BK374 := Aside0.mk (qG BK374 hg (fun e_ => NB374_387.out (Option.some.inj e_)))
   replace HO381 := Aside0.mk (Kd.V_grown (qv HO381) hg (by intro k_ hk e_; exact (hk.2.2.2.2) (Option.some.inj e_)))
   replace BK387 := Aside0.mk (hbk_)
   replace HB := Aside0.mk (Below.grown (qs HB) hg ((below_size (qs HB))) (fun _ e_ => by cases e_; exact GE387.out))
   clear hbk_ hg
   refine hK.out _ _ ⟨BK373.out, (blk_cell BK373.out 0).trans qc, (blk_cell BK373.out 1).trans qc, (blk_cell BK373.out 2).trans qc, (blk_cell BK373.out 35).trans qc, (blk_cell BK373.out 36).trans qc, (blk_cell BK372.out 0).trans rfl, (blk_cell BK372.out 1).trans rfl⟩ (fun hHeld => ?_)
   clear hK K
   refine qQ 12 (some 11) (qt 13 8191) (any_of HT_.out (by kernel_rfl)) ?_
   refine done_ (done_of HT_.out (by kernel_rfl)) ?_
   have hnb23 := NB372_387.out
   have hnc23 := NB387_372.out
   have hcz24_0 : w22.cell? ⟨gb372, 0, none⟩ = some (.int .u64 a0_0) := (blk_cell BK372.out 0).trans rfl
   have hcz24_1 : w22.cell? ⟨gb372, 1, none⟩ = some (.slice A0_1 l0_1.length c0_1) := (blk_cell BK372.out 1).trans rfl
   have hfz24_0 := blk_frozen BK372.out 0
   have hfz24_1 := blk_frozen BK372.out 1
   try go_wp2_with (first | ((with_reducible refine gate_callee (f := 27) rfl ?_); refine goesL_ (some 33) rfl rfl Tryz.func27 (by kernel_rfl) rfl #[.agg #[.int .u64 a0_0, .slice A0_1 l0_1.length c0_1], .int .u64 t377] rfl ql ?_; (with_reducible refine (alias_Owner.calls k a0_0 _ _ l0_1 t377 t388 t389 _ ?side1 ?side2 A9.out).mono ?_); (case side1 => repeat (first | exact (Kd.C_below HR0_1.out HB.out) | (with_reducible refine Kd.C_alloc ?_ _) | (with_reducible refine Kd.C_drewN ?_ _) | (with_reducible refine Kd.C_drew ?_))); (case side2 => exact HC0_1.out); rintro e w25 ⟨rfl, hb⟩; refine ⟨_, rfl, ?_⟩; replace HO1_1 := Aside0.mk (Kd.V_below (qv HO1_1) hb); replace HO381 := Aside0.mk (Kd.V_below (qv HO381) hb); replace BK372 := Aside0.mk (qB BK372 hb); replace BK373 := Aside0.mk (qB BK373 hb); replace BK374 := Aside0.mk (qB BK374 hb); replace BK387 := Aside0.mk (qB BK387 hb); replace HB := Aside0.mk (below_step (qs HB) hb); (try clear hb); (try clear hb2); (try clear hk); (try clear hi)))
   replace HO1_1 := Aside0.mk (Kd.V_drew HO1_1.out)
   replace HO381 := Aside0.mk (Kd.V_drew HO381.out)
   replace BK372 := Aside0.mk (blk_drew BK372.out)
   replace BK373 := Aside0.mk (blk_drew BK373.out)
   replace BK374 := Aside0.mk (blk_drew BK374.out)
   replace BK387 := Aside0.mk (blk_drew BK387.out)
   replace HB := Aside0.mk (below_drew1 HB.out)
   refine start_ (n := 6) (S := fun w' => w'.heap[gb387]? = some (.cells (#[.int .i64 t378, v380, .int .u64 t382] ++ ((Ar.cells .u8 32 t383) ++ #[.int .u64 t384, .int .u64 t385])) 39 (0, 0)) ∧ w'.cell? ⟨gb387, 0, none⟩ = some (.int .i64 t378) ∧ w'.cell? ⟨gb387, 1, none⟩ = some (v380) ∧ w'.cell? ⟨gb387, 2, none⟩ = some (.int .u64 t382) ∧ w'.cell? ⟨gb387, 35, none⟩ = some (.int .u64 t384) ∧ w'.cell? ⟨gb387, 36, none⟩ = some (.int .u64 t385)) (ds := []) #[false, false, false, false, false, false] (by kernel_rfl) rfl rfl ⟨BK387.out, (blk_cell BK387.out 0).trans qc, (blk_cell BK387.out 1).trans qc, (blk_cell BK387.out 2).trans qc, (blk_cell BK387.out 35).trans qc, (blk_cell BK387.out 36).trans qc⟩ (fun hHeld => ?_)
   generalize w25.drew = w26 at HO1_1 HO381 BK372 BK373 BK374 BK387 HB hHeld ⊢
   refine qP 0 (some 36) (qt 6 1) ?_
   refine qP 2 (some 38) (qt 6 5) ?_
   refine qP 3 (some 6) (qt 6 13) ?_
   refine take_ (i := 1) (N := some 37) (v := ?_) (a' := ?_) (qt 6 15) rfl rfl (by kernel_rfl) (fun _ _ _ h => h) (Or.inl ⟨by rfl, ?_⟩) hHeld ?_ ?_
   rotate_left
   ·rintro w' ⟨s0, s1, s2, s3, s4, s5⟩
    first | (refine (Ar.gload_run rfl Tryz.underlying39 rfl (D := (#[.int .i64 t378, v380, .int .u64 t382] ++ ((Ar.cells .u8 32 t383) ++ #[.int .u64 t384, .int .u64 t385]))) qz rfl (Ar.blk_part (by assumption) Ar.in_whole)).trans ?_; with_reducible rfl) | (go_simp; with_reducible rfl)
   rotate_left
   ·simp only [Act.put, zA_, zB_, zC_, i64_w, i32_w]
    rfl
   refine one_ (i := 4) (N := none) (qt 6 31) rfl rfl (by kernel_rfl) (by decide) (fun K hK => ?_)
   refine Ar.gstore_step (by rfl) rfl rfl (D := (#[.int .i64 t378, v380, .int .u64 t382] ++ ((Ar.cells .u8 32 t383) ++ #[.int .u64 t384, .int .u64 t385]))) qz (g := gb374) rfl qg (qb BK374) (by simp [Ar.cells_size]) (by repeat (first | (with_reducible refine Ar.all_app ?_ ?_) | (with_reducible exact Ar.cells_one _ _ _) | (focus (simp [Value.oneCell']; done)) | (focus (simp [(show (v380 : Value).oneCell' = true from by (have e_ := Kd.V_slice HO381.out; obtain ⟨_, _, e_⟩ := e_; rw [e_]; rfl))]; first | done | rfl | (repeat' constructor))) | rfl)) ?_; intro w27 hbk_ hg
   replace HO1_1 := Aside0.mk (Kd.V_grown (qv HO1_1) hg (by intro k_ hk e_; exact (hk.2.2.2.1) (Option.some.inj e_)))
   replace BK372 := Aside0.mk (qG BK372 hg (fun e_ => NB372_374.out (Option.some.inj e_)))
   replace BK373 := Aside0.mk (qG BK373 hg (fun e_ => NB373_374.out (Option.some.inj e_)))
   replace HO381 := Aside0.mk (Kd.V_grown (qv HO381) hg (by intro k_ hk e_; exact (hk.2.2.2.1) (Option.some.inj e_)))
   replace BK387 := Aside0.mk (qG BK387 hg (fun e_ => NB387_374.out (Option.some.inj e_)))
   replace BK374 := Aside0.mk (hbk_)
   replace HB := Aside0.mk (Below.grown (qs HB) hg ((below_size (qs HB))) (fun _ e_ => by cases e_; exact GE374.out))
   clear hbk_ hg
   refine hK.out _ _ ⟨BK387.out, (blk_cell BK387.out 0).trans qc, (blk_cell BK387.out 1).trans qc, (blk_cell BK387.out 2).trans qc, (blk_cell BK387.out 35).trans qc, (blk_cell BK387.out 36).trans qc⟩ (fun hHeld => ?_)
   clear hK K
   refine qP 5 (some 8) (qt 6 63) ?_
   refine done_ (by kernel_rfl) ?_
   try go_wp2
   refine bodyPost_ret (results_list (rs := [.tmp 6, .cell 7 39, .tmp 8]) rfl (by simp) (.tmp (.cell gb374 39 (#[.int .i64 t378, v380, .int .u64 t382] ++ ((Ar.cells .u8 32 t383) ++ #[.int .u64 t384, .int .u64 t385])) (0, 0) _ rfl (qb BK374) Tryz.underlying39 rfl qz (.tmp .nil)))) rfl ?_
   exact ⟨_, by first | rfl | (simp [errW_none, errW_some] <;> rfl) | (simp [*, errW_none, errW_some] <;> rfl), by (with_reducible repeat (first | apply Kd.V_alloc | apply Kd.V_drewN | apply Kd.V_drew)); exact Kd.V_mono HO381.out (fun _ hk => hk.1), (qs HB)⟩
  ·rw [if_neg c8] at H
   exact absurd H (by simp)
 ·replace c5 := Bool.eq_false_iff.mpr c5
  subst c5
  have H1 : (none) = some (r1, r2, r3, r4, r5, r6, r7, r8) := by rw [if_neg (show ¬ (false = true) by decide)] at H; exact H
  clear H
  have H := H1
  clear H1
  exact absurd H (by simp)
def pick_List.f (k : Nat) (a0_0 : Int) (l0_1 : List Int) (a0_2 : Int) (a0_3 : List Int) (a0_4 : Int) (a0_5 : Int) (a1 : Int) (l2 : List Int) : Option (Int × Int × List Int × Int × List Int × Int × Int × Int) := (alias_Build.f k l2).bind fun bt392 => (if bt392.2.2 = 0 then ((pick_Draw.f k bt392.1 bt392.2.1 a0_0 l0_1 a0_2 a0_3 a0_4 a0_5 a1).bind fun bt398 => (some (bt398.1, bt398.2.1, bt398.2.2.1, bt398.2.2.2.1, bt398.2.2.2.2.1, bt398.2.2.2.2.2.1, bt398.2.2.2.2.2.2.1, bt398.2.2.2.2.2.2.2))) else (none))
theorem pick_List.mono : ∀ a0 a1 a2 a3 a4 a5 a6 a7 k, LeO (pick_List.f k a0 a1 a2 a3 a4 a5 a6 a7) (pick_List.f (k + 1) a0 a1 a2 a3 a4 a5 a6 a7) := by
 intro a0 a1 a2 a3 a4 a5 a6 a7 k
 unfold pick_List.f
 repeat' first
   | (with_reducible exact alias_Build.mono _ _)
   | (with_reducible exact pick_Draw.mono _ _ _ _ _ _ _ _ _ _)
   | (with_reducible exact LeO.refl _)
   | (with_reducible exact LeO.none _)
   | (with_reducible refine LeO.ite ?_ ?_)
   | (with_reducible refine LeO.bind ?_ (fun _ => ?_))
   | exact alias_Build.mono _ _
   | exact pick_Draw.mono _ _ _ _ _ _ _ _ _ _
   | exact LeO.none _
   | refine LeO.ite ?_ ?_
   | refine LeO.bind ?_ (fun _ => ?_)
set_option maxHeartbeats 8000000 in
set_option maxRecDepth 100000 in
theorem pick_List.calls (k : Nat) (a0_0 : Int) (P0_1_ : Nat → Prop) (A0_1 : Option Addr) (c0_1 : Nat) (l0_1 : List Int) (a0_2 : Int) (a0_3 : List Int) (a0_4 : Int) (a0_5 : Int) (a1 : Int) (A2 : Option Addr) (c2 : Nat) (l2 : List Int) (r1 : Int) (r2 : Int) (r3 : List Int) (r4 : Int) (r5 : List Int) (r6 : Int) (r7 : Int) (r8 : Int) (w : World) (hs0_1 : Kd.V (Kd.int .u8) 5 w w.heap.size (fun k_ => P0_1_ k_) (.slice A0_1 l0_1.length c0_1) l0_1) (hr2 : Kd.C (Kd.int .u64) w A2 l2.length l2) (hc2 : l2.length ≤ c2) (h : pick_List.f k a0_0 l0_1 a0_2 a0_3 a0_4 a0_5 a1 l2 = some (r1, r2, r3, r4, r5, r6, r7, r8)) :
  Calls Tryz.prog 32 #[.agg (#[.int .i64 a0_0, .slice A0_1 l0_1.length c0_1, .int .u64 a0_2] ++ (Ar.cells .u8 32 a0_3 ++ #[.int .u64 a0_4, .int .u64 a0_5])), .int .i64 a1, .slice A2 l2.length c2] w fun e w' => ∃ v2_ : Value, e = .returned (.tuple #[.int .i64 r1, .agg (#[.int .i64 r2, v2_, .int .u64 r4] ++ (Ar.cells .u8 32 r5 ++ #[.int .u64 r6, .int .u64 r7])), .int .i64 r8]) ∧ Kd.V (Kd.int .u8) 5 w' w.heap.size (fun k_ => (P0_1_ k_ ∨ w.heap.size ≤ k_)) v2_ r3 ∧ Below w.heap.size w w' := by
 have hu39 := Tryz.underlying39
 have hu30 := Tryz.underlying30
 have HO0_1 := Aside0.mk (show Kd.V (Kd.int .u8) 5 w w.heap.size (fun k_ => (P0_1_ k_ ∨ w.heap.size ≤ k_)) (.slice A0_1 l0_1.length c0_1) l0_1 from Kd.V_mono hs0_1 (fun k_ hk => .inl hk))
 have HR2 := Aside0.mk hr2
 have HC2 := Aside0.mk hc2
 clear hr2 hc2
 have HB := Aside0.mk (Below.refl w.heap.size w)
 have H : ((alias_Build.f k l2).bind fun bt392 => (if bt392.2.2 = 0 then ((pick_Draw.f k bt392.1 bt392.2.1 a0_0 l0_1 a0_2 a0_3 a0_4 a0_5 a1).bind fun bt398 => (some (bt398.1, bt398.2.1, bt398.2.2.1, bt398.2.2.2.1, bt398.2.2.2.2.1, bt398.2.2.2.2.2.1, bt398.2.2.2.2.2.2.1, bt398.2.2.2.2.2.2.2))) else (none))) = some (r1, r2, r3, r4, r5, r6, r7, r8) := h
 clear h
 replace H := Option.bind_eq_some_iff.mp H
 obtain ⟨⟨t392, t393, t396⟩, A40, H⟩ := H
 try dsimp only at H
 have A4 := Aside0.mk A40
 clear A40
 by_cases c5 : t396 = 0
 ·rw [if_pos c5] at H
  have c5b0 : (t396 == 0) = true := beq_iff_eq.mpr c5
  have c5b1 : (t396 != 0) = false := bne_eq_false_iff_eq.mpr c5
  clear c5
  replace H := Option.bind_eq_some_iff.mp H
  obtain ⟨⟨t398, t399, t400, t403, t404, t405, t406, t407⟩, A60, H⟩ := H
  try dsimp only at H
  have A6 := Aside0.mk A60
  clear A60
  simp only [Option.some.injEq, Prod.mk.injEq] at H
  obtain ⟨rfl, rfl, rfl, rfl, rfl, rfl, rfl, rfl⟩ := H
  go_enter Tryz.func32, Tryz.ntmps32
  go_wp2_with (first | ((with_reducible refine qd 3 ?_); (try (refine gate_guard (by rfl) ?_; dsimp only)); refine qF (N := 3) (cs := (#[.int .i64 a0_0, .slice A0_1 l0_1.length c0_1, .int .u64 a0_2] ++ ((Ar.cells .u8 32 a0_3) ++ #[.int .u64 a0_4, .int .u64 a0_5]))) (t := 39) ?_; intro gb390 hg w7 hbox hb; replace HO0_1 := Aside0.mk (Kd.V_below (Kd.V_elderB (qv HO0_1) gb390 (Nat.le_of_eq hg.symm)) hb); have BK390 := Aside0.mk (hbox); have GW390 := Aside0.mk (qe HB hg); have GE390 := Aside0.mk (qe HB hg); replace HB := Aside0.mk (below_step (qs HB) hb); clear hb hbox hg) | ((with_reducible refine qd 7 ?_); (try (refine gate_guard (by rfl) ?_; dsimp only)); refine qF (N := 7) (cs := (#[.int .i64 0, .slice none 0 0, .int .u64 0] ++ ((Ar.cells .u8 32 (List.replicate 32 0)) ++ #[.int .u64 0, .int .u64 0]))) (t := 39) ?_; intro gb391 hg w8 hbox hb; replace HO0_1 := Aside0.mk (Kd.V_below (Kd.V_elderB (qv HO0_1) gb391 (Nat.le_of_eq hg.symm)) hb); have BK391 := Aside0.mk (hbox); have GW391 := Aside0.mk (qe HB hg); have GE391 := Aside0.mk (qe HB hg); replace HB := Aside0.mk (below_step (qs HB) hb); have NB390_391 := Aside0.mk (qu BK390 hg); have NB391_390 := Aside0.mk (qw BK390 hg); replace BK390 := Aside0.mk (qB BK390 hb); clear hb hbox hg) | ((with_reducible refine gate_callee (f := 12) rfl ?_); refine goesL_ (some 13) rfl rfl Tryz.func12 (by kernel_rfl) rfl #[.slice A2 l2.length c2] rfl ql ?_; (with_reducible refine (alias_Build.calls k _ _ l2 t392 t393 t396 _ ?side1 ?side2 A4.out).mono ?_); (case side1 => repeat (first | exact (Kd.C_below HR2.out HB.out) | (with_reducible refine Kd.C_alloc ?_ _) | (with_reducible refine Kd.C_drewN ?_ _) | (with_reducible refine Kd.C_drew ?_))); (case side2 => exact HC2.out); rintro e w9 ⟨v394, rfl, ho0, hb⟩; refine ⟨_, rfl, ?_⟩; replace HO0_1 := Aside0.mk (Kd.V_elder' (qv HO0_1) (Kd.R_base ho0) hb); have HO395 := Aside0.mk (Kd.R_lower (Kd.R_newM (M := fun k_ => (w.heap.size ≤ k_)) ho0 (below_size (qs HB)) (fun k_ h_ => h_)) (below_size (qs HB))); replace BK390 := Aside0.mk (qB BK390 hb); replace BK391 := Aside0.mk (qB BK391 hb); replace HB := Aside0.mk (below_step (qs HB) hb); (try clear hb); (try clear hb2); (try clear hk); (try clear hi); (try clear ho0)) | ((with_reducible refine qd 9 ?_); (try (refine gate_guard (by rfl) ?_; dsimp only)); refine box_event ?hg (N := 9) ?hd (cs := #[.int .u64 0, .slice none 0 0]) (t := 30) ?hr ?_; (case hd => rfl); (case hg => rfl); (case hr => first | (go_simp; done) | (go_simp; rfl)); intro gb397 hg w10 hbox hb; replace HO0_1 := Aside0.mk (Kd.V_below (Kd.V_elderB (qv HO0_1) gb397 (Nat.le_of_eq hg.symm)) hb); replace HO395 := Aside0.mk (Kd.R_below (qr HO395) hb); have BK397 := Aside0.mk (hbox); have GW397 := Aside0.mk (qe HB hg); have GE397 := Aside0.mk (qe HB hg); replace HB := Aside0.mk (below_step (qs HB) hb); have NB390_397 := Aside0.mk (qu BK390 hg); have NB397_390 := Aside0.mk (qw BK390 hg); replace BK390 := Aside0.mk (qB BK390 hb); have NB391_397 := Aside0.mk (qu BK391 hg); have NB397_391 := Aside0.mk (qw BK391 hg); replace BK391 := Aside0.mk (qB BK391 hb); clear hb hbox hg; have hnb11 := NB397_390.out; have hnc11 := NB390_397.out; have hnb12 := NB397_391.out; have hnc12 := NB391_397.out; have hcz13_0 : w10.cell? ⟨gb397, 0, none⟩ = some (.int .u64 0) := (blk_cell BK397.out 0).trans rfl; have hcz13_1 : w10.cell? ⟨gb397, 1, none⟩ = some (.slice none 0 0) := (blk_cell BK397.out 1).trans rfl; have hfz13_0 := blk_frozen BK397.out 0; have hfz13_1 := blk_frozen BK397.out 1; obtain ⟨Ao14, co14, eo14⟩ := Kd.R_slice HO395.out; subst eo14) | ((with_reducible refine gate_store (t := 30) (p := 9) rfl ?_); refine store_event (t := 30) (p := 9) (v := ?vo_w15) (w1 := ((w10.setCell ⟨gb397, 0, none⟩ (.int .u64 t392)).setCell ⟨gb397, 1, none⟩ (.slice Ao14 t393.length co14))) ?hg ?ho ?hn ?hr ?_; (case ho => rfl); (case hg => rfl); (case hn => rfl); (case hr => first | (go_simp; done) | (go_simp; rfl)); intro w15 hw; have n0_ : Aside0 (Kd.V (Kd.int .u8) 5 w15 w.heap.size (fun k_ => (P0_1_ k_ ∨ w.heap.size ≤ k_) ∧ some k_ ≠ (.slice Ao14 t393.length co14 : Value).ownBlock ∧ k_ ≠ gb390 ∧ k_ ≠ gb391 ∧ k_ ≠ gb397) (.slice A0_1 l0_1.length c0_1) l0_1) := ⟨(by rw [hw]; exact (by (with_reducible repeat (first | apply Kd.V_alloc | apply Kd.V_drewN | apply Kd.V_drew)); exact Kd.V_mono (Kd.V_far (p := ⟨gb397, 1, none⟩) (Kd.V_far (p := ⟨gb397, 0, none⟩) (Kd.V_mono HO0_1.out (fun k_ hk => (⟨hk, hk.2⟩ : _ ∧ k_ ≠ gb397))) (fun _ hk => hk.2) (.int .u64 t392)) (fun _ hk => hk.2) (.slice Ao14 t393.length co14)) (fun _ hk => ⟨hk.1.1.1.1.1, ⟨hk.1.1.2, ⟨hk.1.1.1.1.2, ⟨hk.1.1.1.2, hk.1.2⟩⟩⟩⟩)))⟩; have n1_ : Aside0 (Kd.R k96 96 w15 w.heap.size (fun k_ => (w.heap.size ≤ k_)) (.slice Ao14 t393.length co14) t393) := ⟨(by rw [hw]; exact (by (with_reducible repeat (first | apply Kd.R_alloc | apply Kd.R_drewN | apply Kd.R_drew)); exact Kd.R_mono (Kd.R_far (p := ⟨gb397, 1, none⟩) (Kd.R_far (p := ⟨gb397, 0, none⟩) (Kd.R_types HO395.out BK397.out (by decide)) (fun _ hk => hk.2) (.int .u64 t392)) (fun _ hk => hk.2) (.slice Ao14 t393.length co14)) (fun _ hk => hk.1.1)))⟩; have n2_ : Aside0 (w15.heap[gb390]? = some (.cells (#[.int .i64 a0_0, .slice A0_1 l0_1.length c0_1, .int .u64 a0_2] ++ ((Ar.cells .u8 32 a0_3) ++ #[.int .u64 a0_4, .int .u64 a0_5])) 39 (0, 0))) := ⟨(by rw [hw]; exact (by (with_reducible repeat (first | refine blk_drewN ?_ _ | refine blk_drew ?_ | refine blk_alloc ?_ _)); refine blk_far ?_ NB390_397.out _; (with_reducible repeat (first | refine blk_drewN ?_ _ | refine blk_drew ?_ | refine blk_alloc ?_ _)); refine blk_far ?_ NB390_397.out _; (with_reducible repeat (first | refine blk_drewN ?_ _ | refine blk_drew ?_ | refine blk_alloc ?_ _)); exact BK390.out))⟩; have n3_ : Aside0 (w15.heap[gb391]? = some (.cells (#[.int .i64 0, .slice none 0 0, .int .u64 0] ++ ((Ar.cells .u8 32 (List.replicate 32 0)) ++ #[.int .u64 0, .int .u64 0])) 39 (0, 0))) := ⟨(by rw [hw]; exact (by (with_reducible repeat (first | refine blk_drewN ?_ _ | refine blk_drew ?_ | refine blk_alloc ?_ _)); refine blk_far ?_ NB391_397.out _; (with_reducible repeat (first | refine blk_drewN ?_ _ | refine blk_drew ?_ | refine blk_alloc ?_ _)); refine blk_far ?_ NB391_397.out _; (with_reducible repeat (first | refine blk_drewN ?_ _ | refine blk_drew ?_ | refine blk_alloc ?_ _)); exact BK391.out))⟩; have n4_ : Aside0 (w15.heap[gb397]? = some (.cells #[.int .u64 t392, .slice Ao14 t393.length co14] 30 (0, 0))) := ⟨(by rw [hw]; exact (by (with_reducible repeat (first | refine blk_drewN ?_ _ | refine blk_drew ?_ | refine blk_alloc ?_ _)); refine blk_put (cs := #[.int .u64 t392, .slice none 0 0]) ?_ 1 _ rfl; (with_reducible repeat (first | refine blk_drewN ?_ _ | refine blk_drew ?_ | refine blk_alloc ?_ _)); refine blk_put (cs := #[.int .u64 0, .slice none 0 0]) ?_ 0 _ rfl; (with_reducible repeat (first | refine blk_drewN ?_ _ | refine blk_drew ?_ | refine blk_alloc ?_ _)); exact BK397.out))⟩; have n5_ : Aside0 (Below w.heap.size w w15) := ⟨(by rw [hw]; exact (qs HB))⟩; clear hw HO0_1 HO395 BK390 BK391 BK397 HB; have HO0_1 := n0_; have HO395 := n1_; have BK390 := n2_; have BK391 := n3_; have BK397 := n4_; have HB := n5_; clear n0_ n1_ n2_ n3_ n4_ n5_; have hcz16_0 : w15.cell? ⟨gb397, 0, none⟩ = some (.int .u64 t392) := (blk_cell BK397.out 0).trans rfl; have hcz16_1 : w15.cell? ⟨gb397, 1, none⟩ = some (.slice Ao14 t393.length co14) := (blk_cell BK397.out 1).trans rfl; have hfz16_0 := blk_frozen BK397.out 0; have hfz16_1 := blk_frozen BK397.out 1) | ((with_reducible refine qd 21 ?_); (try (refine gate_guard (by rfl) ?_; dsimp only)); refine Ar.gload_event rfl (T := 39) rfl Tryz.underlying39 rfl (D := (#[.int .i64 a0_0, .slice A0_1 l0_1.length c0_1, .int .u64 a0_2] ++ ((Ar.cells .u8 32 a0_3) ++ #[.int .u64 a0_4, .int .u64 a0_5]))) qz (A := ⟨gb390, 0, none⟩) rfl (Ar.blk_part (qb BK390) Ar.in_whole) ?_) | ((with_reducible refine gate_callee (f := 14) rfl ?_); refine goesL_ (some 23) rfl rfl Tryz.func14 (by kernel_rfl) rfl #[.agg #[.int .u64 t392, .slice Ao14 t393.length co14], .agg (#[.int .i64 a0_0, .slice A0_1 l0_1.length c0_1, .int .u64 a0_2] ++ ((Ar.cells .u8 32 a0_3) ++ #[.int .u64 a0_4, .int .u64 a0_5])), .int .i64 a1] rfl ql ?_; (with_reducible refine (pick_Draw.calls k t392 _ _ t393 a0_0 (fun k_ => ((P0_1_ k_ ∨ w.heap.size ≤ k_) ∧ (some k_ ≠ (.slice Ao14 t393.length co14 : Value).ownBlock ∧ (k_ ≠ gb390 ∧ (k_ ≠ gb391 ∧ k_ ≠ gb397))))) _ _ l0_1 a0_2 a0_3 a0_4 a0_5 a1 t398 t399 t400 t403 t404 t405 t406 t407 _ ?side1 ?side2 ?side3 A6.out).mono ?_); (case side1 => repeat (first | exact (Kd.R_reads' HO395.out).2.2 | (with_reducible refine Kd.C_alloc ?_ _) | (with_reducible refine Kd.C_drewN ?_ _) | (with_reducible refine Kd.C_drew ?_))); (case side2 => exact (Kd.R_reads' HO395.out).2.1); (case side3 => exact HO0_1.out); rintro e w17 ⟨v401, rfl, ho0, hb⟩; refine ⟨_, rfl, ?_⟩; replace HO0_1 := Aside0.mk (Kd.V_below (qv HO0_1) hb); have HO402 := Aside0.mk (Kd.V_lower (Kd.V_mono (ok' := fun k_ => (P0_1_ k_ ∨ w.heap.size ≤ k_) ∧ some k_ ≠ (.slice Ao14 t393.length co14 : Value).ownBlock ∧ k_ ≠ gb390 ∧ k_ ≠ gb391 ∧ k_ ≠ gb397) ho0 (fun k_ hk_ => ⟨Or.elim hk_ (fun hs_ => hs_.1) (fun hn_ => (.inr (Nat.le_trans (below_size (qs HB)) hn_))), Or.elim hk_ (fun hs_ => hs_.2.1) (fun hn_ => (Kd.fresh' (Kd.R_lt (qr HO395)) k_ hn_)), Or.elim hk_ (fun hs_ => hs_.2.2.1) (fun hn_ => (Kd.freshB (g := gb390) (o := .cells (#[.int .i64 a0_0, .slice A0_1 l0_1.length c0_1, .int .u64 a0_2] ++ ((Ar.cells .u8 32 a0_3) ++ #[.int .u64 a0_4, .int .u64 a0_5])) 39 (0, 0)) (qb BK390) k_ hn_)), Or.elim hk_ (fun hs_ => hs_.2.2.2.1) (fun hn_ => (Kd.freshB (g := gb391) (o := .cells (#[.int .i64 0, .slice none 0 0, .int .u64 0] ++ ((Ar.cells .u8 32 (List.replicate 32 0)) ++ #[.int .u64 0, .int .u64 0])) 39 (0, 0)) (qb BK391) k_ hn_)), Or.elim hk_ (fun hs_ => hs_.2.2.2.2) (fun hn_ => (Kd.freshB (g := gb397) (o := .cells #[.int .u64 t392, .slice Ao14 t393.length co14] 30 (0, 0)) (qb BK397) k_ hn_))⟩)) (below_size (qs HB))); replace HO395 := Aside0.mk (Kd.R_below (qr HO395) hb); replace BK390 := Aside0.mk (qB BK390 hb); replace BK391 := Aside0.mk (qB BK391 hb); replace BK397 := Aside0.mk (qB BK397 hb); replace HB := Aside0.mk (below_step (qs HB) hb); (try clear hb); (try clear hb2); (try clear hk); (try clear hi); (try clear ho0)) | ((with_reducible refine gate_store (t := 39) (p := 7) rfl ?_); refine Ar.gstore_event rfl rfl rfl (D := (#[.int .i64 t399, v401, .int .u64 t403] ++ ((Ar.cells .u8 32 t404) ++ #[.int .u64 t405, .int .u64 t406]))) qz (g := gb391) rfl qg (qb BK391) (by simp [Ar.cells_size]) (by repeat (first | (with_reducible refine Ar.all_app ?_ ?_) | (with_reducible exact Ar.cells_one _ _ _) | (focus (simp [Value.oneCell']; done)) | (focus (simp [(show (v401 : Value).oneCell' = true from by (have e_ := Kd.V_slice HO402.out; obtain ⟨_, _, e_⟩ := e_; rw [e_]; rfl))]; first | done | rfl | (repeat' constructor))) | rfl)) ?_; intro w18 hbk_ hg; replace HO0_1 := Aside0.mk (Kd.V_grown (qv HO0_1) hg (by intro k_ hk e_; exact (hk.2.2.2.1) (Option.some.inj e_))); replace BK390 := Aside0.mk (qG BK390 hg (fun e_ => NB390_391.out (Option.some.inj e_))); replace HO395 := Aside0.mk (Kd.R_mono (Kd.R_grown (Kd.R_types (qr HO395) BK391.out (by decide)) hg (fun k_ hk_ e_ => hk_.2 (Option.some.inj e_))) (fun _ h_ => h_.1)); replace BK397 := Aside0.mk (qG BK397 hg (fun e_ => NB397_391.out (Option.some.inj e_))); replace HO402 := Aside0.mk (Kd.V_grown (qv HO402) hg (by intro k_ hk e_; exact (hk.2.2.2.1) (Option.some.inj e_))); replace BK391 := Aside0.mk (hbk_); replace HB := Aside0.mk (Below.grown (qs HB) hg ((below_size (qs HB))) (fun _ e_ => by cases e_; exact GE391.out)); clear hbk_ hg))
  refine bodyPost_ret (results_list (rs := [.tmp 6, .cell 7 39, .tmp 8]) rfl (by simp) (.tmp (.cell gb391 39 (#[.int .i64 t399, v401, .int .u64 t403] ++ ((Ar.cells .u8 32 t404) ++ #[.int .u64 t405, .int .u64 t406])) (0, 0) _ rfl (qb BK391) Tryz.underlying39 rfl qz (.tmp .nil)))) rfl ?_
  exact ⟨_, by first | rfl | (simp [errW_none, errW_some] <;> rfl) | (simp [*, errW_none, errW_some] <;> rfl), by (with_reducible repeat (first | apply Kd.V_alloc | apply Kd.V_drewN | apply Kd.V_drew)); exact Kd.V_mono HO402.out (fun _ hk => hk.1), (qs HB)⟩
 ·rw [if_neg c5] at H
  exact absurd H (by simp)
end Go.Proofs.YtekmngghebpciaaGreat.PW
end
section
namespace Go.Proofs.YtekmngghebpciaaGreat.PW
open Go.RowKit Go.Proofs.YtekmngghebpciaaGreatW.PrintWords Go.Proofs.YtekmngghebpciaaGreatW.PrintLast Go.Proofs.YtekmngghebpciaaGreatW.PrintMore
attribute [local go_sem] max2_int min2_int max_two min_two max_three min_three max_four min_four
set_option linter.unusedVariables false
set_option linter.unusedSimpArgs false
def drawlotref17_Same.l0 : Nat → List Int → List Int → Int → Option (Bool)
 | 0, _, _, _ => none
 | k + 1, x0, x1, x5 => if x5 < (x0.length : Int) then (if 0 ≤ x5 then (if x5 < (x1.length : Int) then (if (rd x0 x5) = (rd x1 x5) then (drawlotref17_Same.l0 k x0 x1 (wrap64 (x5 + 1))) else (some false)) else (none)) else (none)) else (some true)
def drawlotref17_Same.f (k : Nat) (l0 : List Int) (l1 : List Int) : Option (Bool) := if (l0.length : Int) = (l1.length : Int) then (drawlotref17_Same.l0 k l0 l1 0) else (some false)
theorem drawlotref17_Same.mono_l : ∀ k, (∀ y0 y1 y2, LeO (drawlotref17_Same.l0 k y0 y1 y2) (drawlotref17_Same.l0 (k + 1) y0 y1 y2))
 | 0 => fun _ _ _ r h => by simp [drawlotref17_Same.l0] at h
 | k + 1 => by
  have ih0 := drawlotref17_Same.mono_l k
  ·intro y0 y1 y2
   unfold drawlotref17_Same.l0
   repeat' first
   | (with_reducible exact ih0 _ _ _)
   | (with_reducible exact LeO.refl _)
   | (with_reducible exact LeO.none _)
   | (with_reducible refine LeO.ite ?_ ?_)
   | (with_reducible refine LeO.bind ?_ (fun _ => ?_))
   | exact ih0 _ _ _
   | exact LeO.none _
   | refine LeO.ite ?_ ?_
   | refine LeO.bind ?_ (fun _ => ?_)
theorem drawlotref17_Same.mono : ∀ a0 a1 k, LeO (drawlotref17_Same.f k a0 a1) (drawlotref17_Same.f (k + 1) a0 a1) := by
 intro a0 a1 k
 have ih0 := drawlotref17_Same.mono_l k
 unfold drawlotref17_Same.f
 repeat' first
   | (with_reducible exact ih0 _ _ _)
   | (with_reducible exact LeO.refl _)
   | (with_reducible exact LeO.none _)
   | (with_reducible refine LeO.ite ?_ ?_)
   | (with_reducible refine LeO.bind ?_ (fun _ => ?_))
   | exact ih0 _ _ _
   | exact LeO.none _
   | refine LeO.ite ?_ ?_
   | refine LeO.bind ?_ (fun _ => ?_)
set_option maxHeartbeats 8000000 in
set_option maxRecDepth 100000 in
theorem drawlotref17_Same.calls (k : Nat) (A0 : Option Addr) (c0 : Nat) (l0 : List Int) (A1 : Option Addr) (c1 : Nat) (l1 : List Int) (r : Bool) (w : World) (hr0 : Kd.C (Kd.int .i64) w A0 l0.length l0) (hc0 : l0.length ≤ c0) (hr1 : Kd.C (Kd.int .i64) w A1 l1.length l1) (hc1 : l1.length ≤ c1) (h : drawlotref17_Same.f k l0 l1 = some r) :
  Calls Tryz.prog 40 #[.slice A0 l0.length c0, .slice A1 l1.length c1] w fun e w' => e = .returned (.bool r) ∧ Drawn0 w w' := by
 have HR0 := Aside0.mk hr0
 have HC0 := Aside0.mk hc0
 clear hr0 hc0
 have HR1 := Aside0.mk hr1
 have HC1 := Aside0.mk hc1
 clear hr1 hc1
 have H : (if (l0.length : Int) = (l1.length : Int) then (drawlotref17_Same.l0 k l0 l1 0) else (some false)) = some r := h
 clear h
 by_cases c3 : (l0.length : Int) = (l1.length : Int)
 ·rw [if_pos c3] at H
  have c3b0 : ((l0.length : Int) == (l1.length : Int)) = true := beq_iff_eq.mpr c3
  have c3b1 : ((l0.length : Int) != (l1.length : Int)) = false := bne_eq_false_iff_eq.mpr c3
  have c3b2 : (l0.length == l1.length) = true := by first | simpa using c3 | (simp at c3 ⊢; omega)
  clear c3
  have H' := Aside0.mk H
  clear H
  go_enter Tryz.func40, Tryz.ntmps40
  go_wp2
  repeat (go_quiet (fail); try go_wp2)
  go_loopg [5] k (fun kq v5 w' => ∃ (x5_1 : Int), v5 = .int .i64 x5_1 ∧ Aside0 (drawlotref17_Same.l0 kq l0 l1 x5_1 = some r) ∧ Aside0 (kq ≤ k) ∧ Drawn0 w w')
  case atStart => exact ⟨(0), (by first | rfl | (simp; done) | (simp [*]; done)), H', ⟨Nat.le_refl _⟩, by repeat (first | exact Drawn0.refl _ | apply Drawn0.step)⟩
  case round =>
   clear H'
   try clear c1
   try clear p2
   try clear c3
   try clear c3b0
   try clear c3b1
   try clear c3b2
   obtain ⟨x5_1, rfl, HA, HK1, ⟨m1, rfl⟩⟩ := hrel
   cases gk with
   | zero => exact absurd HA.out (by simp [drawlotref17_Same.l0])
   | succ k1 =>
    have H := HA.out
    clear HA
    simp only [drawlotref17_Same.l0] at H
    by_cases c4 : x5_1 < (l0.length : Int)
    ·rw [if_pos c4] at H
     have c4b0 : decide (x5_1 < (l0.length : Int)) = true := decide_eq_true c4
     clear c4
     by_cases c5 : 0 ≤ x5_1
     ·rw [if_pos c5] at H
      have c5b0 : decide (0 ≤ x5_1) = true := decide_eq_true c5
      clear c5
      by_cases c6 : x5_1 < (l1.length : Int)
      ·rw [if_pos c6] at H
       have c6b0 : decide (x5_1 < (l1.length : Int)) = true := decide_eq_true c6
       clear c6
       by_cases c7 : (rd l0 x5_1) = (rd l1 x5_1)
       ·rw [if_pos c7] at H
        have c7b0 : ((rd l0 x5_1) == (rd l1 x5_1)) = true := beq_iff_eq.mpr c7
        have c7b1 : ((rd l0 x5_1) != (rd l1 x5_1)) = false := bne_eq_false_iff_eq.mpr c7
        clear c7
        have H' := Aside0.mk H
        clear H
        have p408 : 0 ≤ (x5_1 : Int) := of_decide_eq_true qa
        have q408 : x5_1 < (l0.length : Int) := of_decide_eq_true qa
        obtain ⟨ad408, e408, hx408_0⟩ := Kd.at_int HR0.out x5_1 p408 q408
        cases e408
        replace p408 := eq_true p408
        replace q408 := eq_true q408
        have p409 : 0 ≤ (x5_1 : Int) := of_decide_eq_true qa
        have q409 : x5_1 < (l1.length : Int) := of_decide_eq_true qa
        obtain ⟨ad409, e409, hx409_0⟩ := Kd.at_int HR1.out x5_1 p409 q409
        cases e409
        replace p409 := eq_true p409
        replace q409 := eq_true q409
        go_wp2
        repeat (go_quiet (fail); try go_wp2)
        go_roundg k1
        case measure => have := HK1.out; omega
        case rel => exact ⟨(wrap64 (x5_1 + 1)), (by first | rfl | (simp; done) | (simp [*]; done)), H', ⟨by have := HK1.out; omega⟩, by repeat (first | exact Drawn0.refl _ | apply Drawn0.step)⟩
       ·rw [if_neg c7] at H
        have c7b0 : ((rd l0 x5_1) == (rd l1 x5_1)) = false := beq_eq_false_iff_ne.mpr c7
        have c7b1 : ((rd l0 x5_1) != (rd l1 x5_1)) = true := bne_iff_ne.mpr c7
        obtain rfl := Option.some.inj H
        have p408 : 0 ≤ (x5_1 : Int) := of_decide_eq_true qa
        have q408 : x5_1 < (l0.length : Int) := of_decide_eq_true qa
        obtain ⟨ad408, e408, hx408_0⟩ := Kd.at_int HR0.out x5_1 p408 q408
        cases e408
        replace p408 := eq_true p408
        replace q408 := eq_true q408
        have p409 : 0 ≤ (x5_1 : Int) := of_decide_eq_true qa
        have q409 : x5_1 < (l1.length : Int) := of_decide_eq_true qa
        obtain ⟨ad409, e409, hx409_0⟩ := Kd.at_int HR1.out x5_1 p409 q409
        cases e409
        replace p409 := eq_true p409
        replace q409 := eq_true q409
        go_wp2
        repeat (go_quiet (fail); try go_wp2)
        go_ret
        exact ⟨by first | rfl | (simp; done) | (simp [*]; done), by repeat (first | exact Drawn0.refl _ | apply Drawn0.step)⟩
      ·rw [if_neg c6] at H
       exact absurd H (by simp)
     ·rw [if_neg c5] at H
      exact absurd H (by simp)
    ·rw [if_neg c4] at H
     have c4b0 : decide (x5_1 < (l0.length : Int)) = false := decide_eq_false c4
     clear c4
     obtain rfl := Option.some.inj H
     go_wp2
     repeat (go_quiet (fail); try go_wp2)
     go_ret
     exact ⟨by first | rfl | (simp; done) | (simp [*]; done), by repeat (first | exact Drawn0.refl _ | apply Drawn0.step)⟩
 ·rw [if_neg c3] at H
  have c3b0 : ((l0.length : Int) == (l1.length : Int)) = false := beq_eq_false_iff_ne.mpr c3
  have c3b1 : ((l0.length : Int) != (l1.length : Int)) = true := bne_iff_ne.mpr c3
  have c3b2 : (l0.length == l1.length) = false := by first | simpa using c3 | (simp at c3 ⊢; omega)
  obtain rfl := Option.some.inj H
  go_enter Tryz.func40, Tryz.ntmps40
  go_wp2
  repeat (go_quiet (fail); try go_wp2)
  go_ret
  exact ⟨by first | rfl | (simp; done) | (simp [*]; done), by repeat (first | exact Drawn0.refl _ | apply Drawn0.step)⟩
def scan_Positive.l0 : Nat → Int → List Int → Int → Int → Option (Int)
 | 0, _, _, _, _ => none
 | k + 1, x2, x5, x6, x7 => if x7 < x6 then (if 0 ≤ x7 then (if x7 < (x5.length : Int) then (if (rd x5 x7) > 0 then (scan_Positive.l0 k (wrap64 (x2 + 1)) x5 x6 (wrap64 (x7 + 1))) else (scan_Positive.l0 k x2 x5 x6 (wrap64 (x7 + 1)))) else (none)) else (none)) else (some x2)
def scan_Positive.f (k : Nat) (l0 : List Int) : Option (Int) := scan_Positive.l0 k 0 l0 (l0.length : Int) 0
theorem scan_Positive.mono_l : ∀ k, (∀ y0 y1 y2 y3, LeO (scan_Positive.l0 k y0 y1 y2 y3) (scan_Positive.l0 (k + 1) y0 y1 y2 y3))
 | 0 => fun _ _ _ _ r h => by simp [scan_Positive.l0] at h
 | k + 1 => by
  have ih0 := scan_Positive.mono_l k
  ·intro y0 y1 y2 y3
   unfold scan_Positive.l0
   repeat' first
   | (with_reducible exact ih0 _ _ _ _)
   | (with_reducible exact LeO.refl _)
   | (with_reducible exact LeO.none _)
   | (with_reducible refine LeO.ite ?_ ?_)
   | (with_reducible refine LeO.bind ?_ (fun _ => ?_))
   | exact ih0 _ _ _ _
   | exact LeO.none _
   | refine LeO.ite ?_ ?_
   | refine LeO.bind ?_ (fun _ => ?_)
theorem scan_Positive.mono : ∀ a0 k, LeO (scan_Positive.f k a0) (scan_Positive.f (k + 1) a0) := by
 intro a0 k
 have ih0 := scan_Positive.mono_l k
 unfold scan_Positive.f
 repeat' first
   | (with_reducible exact ih0 _ _ _ _)
   | (with_reducible exact LeO.refl _)
   | (with_reducible exact LeO.none _)
   | (with_reducible refine LeO.ite ?_ ?_)
   | (with_reducible refine LeO.bind ?_ (fun _ => ?_))
   | exact ih0 _ _ _ _
   | exact LeO.none _
   | refine LeO.ite ?_ ?_
   | refine LeO.bind ?_ (fun _ => ?_)
set_option maxHeartbeats 8000000 in
set_option maxRecDepth 100000 in
theorem scan_Positive.calls (k : Nat) (A0 : Option Addr) (c0 : Nat) (l0 : List Int) (r : Int) (w : World) (hr0 : Kd.C (Kd.int .u64) w A0 l0.length l0) (hc0 : l0.length ≤ c0) (h : scan_Positive.f k l0 = some r) :
  Calls Tryz.prog 37 #[.slice A0 l0.length c0] w fun e w' => e = .returned (.int .i64 r) ∧ Drawn0 w w' := by
 have HR0 := Aside0.mk hr0
 have HC0 := Aside0.mk hc0
 clear hr0 hc0
 have H : (scan_Positive.l0 k 0 l0 (l0.length : Int) 0) = some r := h
 clear h
 have H' := Aside0.mk H
 clear H
 go_enter Tryz.func37, Tryz.ntmps37
 go_wp2
 go_loopg [2, 7] k (fun kq v2 v7 w' => ∃ (x2_1 : Int) (x7_1 : Int), v2 = .int .i64 x2_1 ∧ v7 = .int .i64 x7_1 ∧ Aside0 (scan_Positive.l0 kq x2_1 l0 (l0.length : Int) x7_1 = some r) ∧ Aside0 (kq ≤ k) ∧ Drawn0 w w')
 case atStart => exact ⟨(0), (0), (by first | rfl | (simp; done) | (simp [*]; done)), (by first | rfl | (simp; done) | (simp [*]; done)), H', ⟨Nat.le_refl _⟩, by repeat (first | exact Drawn0.refl _ | apply Drawn0.step)⟩
 case round =>
  clear H'
  obtain ⟨x2_1, x7_1, rfl, rfl, HA, HK1, ⟨m1, rfl⟩⟩ := hrel
  cases gk with
  | zero => exact absurd HA.out (by simp [scan_Positive.l0])
  | succ k1 =>
   have H := HA.out
   clear HA
   simp only [scan_Positive.l0] at H
   by_cases c2 : x7_1 < (l0.length : Int)
   ·rw [if_pos c2] at H
    have c2b0 : decide (x7_1 < (l0.length : Int)) = true := decide_eq_true c2
    clear c2
    by_cases c3 : 0 ≤ x7_1
    ·rw [if_pos c3] at H
     have c3b0 : decide (0 ≤ x7_1) = true := decide_eq_true c3
     clear c3
     by_cases c4 : x7_1 < (l0.length : Int)
     ·rw [if_pos c4] at H
      have c4b0 : decide (x7_1 < (l0.length : Int)) = true := decide_eq_true c4
      clear c4
      by_cases c5 : (rd l0 x7_1) > 0
      ·rw [if_pos c5] at H
       have c5b0 : decide (0 < (rd l0 x7_1)) = true := decide_eq_true c5
       clear c5
       have H' := Aside0.mk H
       clear H
       have p410 : 0 ≤ (x7_1 : Int) := of_decide_eq_true qa
       have q410 : x7_1 < (l0.length : Int) := of_decide_eq_true qa
       obtain ⟨ad410, e410, hx410_0⟩ := Kd.at_int HR0.out x7_1 p410 q410
       cases e410
       replace p410 := eq_true p410
       replace q410 := eq_true q410
       go_wp2
       go_roundg k1
       case measure => have := HK1.out; omega
       case rel => exact ⟨(wrap64 (x2_1 + 1)), (wrap64 (x7_1 + 1)), (by first | rfl | (simp; done) | (simp [*]; done)), (by first | rfl | (simp; done) | (simp [*]; done)), H', ⟨by have := HK1.out; omega⟩, by repeat (first | exact Drawn0.refl _ | apply Drawn0.step)⟩
      ·rw [if_neg c5] at H
       have c5b0 : decide (0 < (rd l0 x7_1)) = false := decide_eq_false c5
       clear c5
       have H' := Aside0.mk H
       clear H
       have p410 : 0 ≤ (x7_1 : Int) := of_decide_eq_true qa
       have q410 : x7_1 < (l0.length : Int) := of_decide_eq_true qa
       obtain ⟨ad410, e410, hx410_0⟩ := Kd.at_int HR0.out x7_1 p410 q410
       cases e410
       replace p410 := eq_true p410
       replace q410 := eq_true q410
       go_wp2
       go_roundg k1
       case measure => have := HK1.out; omega
       case rel => exact ⟨(x2_1), (wrap64 (x7_1 + 1)), (by first | rfl | (simp; done) | (simp [*]; done)), (by first | rfl | (simp; done) | (simp [*]; done)), H', ⟨by have := HK1.out; omega⟩, by repeat (first | exact Drawn0.refl _ | apply Drawn0.step)⟩
     ·rw [if_neg c4] at H
      exact absurd H (by simp)
    ·rw [if_neg c3] at H
     exact absurd H (by simp)
   ·rw [if_neg c2] at H
    have c2b0 : decide (x7_1 < (l0.length : Int)) = false := decide_eq_false c2
    clear c2
    obtain rfl := Option.some.inj H
    go_wp2
    go_ret
    exact ⟨by first | rfl | (simp; done) | (simp [*]; done), by repeat (first | exact Drawn0.refl _ | apply Drawn0.step)⟩
def comm_may.f (a0 : Int) (a1_0 : Int) (l1_1 : List Int) (a1_2 : Int) (a1_3 : List Int) (a1_4 : Int) (a1_5 : Int) (a2 : Int) : Option (Bool) := if a0 ≥ 0 then (if a0 ≤ 256 then ((tape_Right.f a1_0 l1_1 a1_2 a1_3 a1_4 a1_5).bind fun t412 => (if t412 = true then (if a2 > 0 then (some (decide (a2 ≤ 64))) else (some false)) else (some false))) else (some false)) else (some false)
set_option maxHeartbeats 8000000 in
set_option maxRecDepth 100000 in
theorem comm_may.calls (a0 : Int) (a1_0 : Int) (A1_1 : Option Addr) (c1_1 : Nat) (l1_1 : List Int) (a1_2 : Int) (a1_3 : List Int) (a1_4 : Int) (a1_5 : Int) (a2 : Int) (r : Bool) (w : World) (hr1_1 : Kd.C (Kd.int .u8) w A1_1 l1_1.length l1_1) (hc1_1 : l1_1.length ≤ c1_1) (h : comm_may.f a0 a1_0 l1_1 a1_2 a1_3 a1_4 a1_5 a2 = some r) :
  Calls Tryz.prog 71 #[.int .i64 a0, .agg (#[.int .i64 a1_0, .slice A1_1 l1_1.length c1_1, .int .u64 a1_2] ++ (Ar.cells .u8 32 a1_3 ++ #[.int .u64 a1_4, .int .u64 a1_5])), .int .i64 a2] w fun e w' => e = .returned (.bool r) ∧ Below w.heap.size w w' := by
 have hu39 := Tryz.underlying39
 have HR1_1 := Aside0.mk hr1_1
 have HC1_1 := Aside0.mk hc1_1
 clear hr1_1 hc1_1
 have HB := Aside0.mk (Below.refl w.heap.size w)
 have H : (if a0 ≥ 0 then (if a0 ≤ 256 then ((tape_Right.f a1_0 l1_1 a1_2 a1_3 a1_4 a1_5).bind fun t412 => (if t412 = true then (if a2 > 0 then (some (decide (a2 ≤ 64))) else (some false)) else (some false))) else (some false)) else (some false)) = some r := h
 clear h
 by_cases c4 : a0 ≥ 0
 ·rw [if_pos c4] at H
  have c4b0 : decide (0 ≤ a0) = true := decide_eq_true c4
  clear c4
  by_cases c5 : a0 ≤ 256
  ·rw [if_pos c5] at H
   have c5b0 : decide (a0 ≤ 256) = true := decide_eq_true c5
   clear c5
   replace H := Option.bind_eq_some_iff.mp H
   obtain ⟨t412, A60, H⟩ := H
   try dsimp only at H
   have A6 := Aside0.mk A60
   clear A60
   by_cases c7 : t412 = true
   ·subst c7
    have H1 : (if a2 > 0 then (some (decide (a2 ≤ 64))) else (some false)) = some r := by rw [if_pos rfl] at H; exact H
    clear H
    have H := H1
    clear H1
    by_cases c8 : a2 > 0
    ·rw [if_pos c8] at H
     have c8b0 : decide (0 < a2) = true := decide_eq_true c8
     clear c8
     obtain rfl := Option.some.inj H
     go_enter Tryz.func71, Tryz.ntmps71
     go_wp2_with (first | ((with_reducible refine qd 4 ?_); (try (refine gate_guard (by rfl) ?_; dsimp only)); refine qF (N := 4) (cs := (#[.int .i64 a1_0, .slice A1_1 l1_1.length c1_1, .int .u64 a1_2] ++ ((Ar.cells .u8 32 a1_3) ++ #[.int .u64 a1_4, .int .u64 a1_5]))) (t := 39) ?_; intro gb411 hg w9 hbox hb; have BK411 := Aside0.mk (hbox); have GW411 := Aside0.mk (qe HB hg); have GE411 := Aside0.mk (qe HB hg); replace HB := Aside0.mk (below_step (qs HB) hb); clear hb hbox hg) | ((with_reducible refine qd 14 ?_); (try (refine gate_guard (by rfl) ?_; dsimp only)); refine Ar.gload_event rfl (T := 39) rfl Tryz.underlying39 rfl (D := (#[.int .i64 a1_0, .slice A1_1 l1_1.length c1_1, .int .u64 a1_2] ++ ((Ar.cells .u8 32 a1_3) ++ #[.int .u64 a1_4, .int .u64 a1_5]))) qz (A := ⟨gb411, 0, none⟩) rfl (Ar.blk_part (qb BK411) Ar.in_whole) ?_) | (go_at_call 66; (try simp only [Array.push_eq_append]); (with_reducible refine (tape_Right.calls a1_0 _ _ l1_1 a1_2 a1_3 a1_4 a1_5 true _ ?side1 ?side2 A6.out).mono ?_); (case side1 => repeat (first | exact (Kd.C_below HR1_1.out HB.out) | (with_reducible refine Kd.C_alloc ?_ _) | (with_reducible refine Kd.C_drewN ?_ _) | (with_reducible refine Kd.C_drew ?_))); (case side2 => exact HC1_1.out); rintro e w10 ⟨rfl, hb⟩; replace BK411 := Aside0.mk (qB BK411 hb); replace HB := Aside0.mk (below_step (qs HB) hb); (try clear hb); (try clear hb2); (try clear hk); (try clear hi)))
     go_ret
     exact ⟨by first | rfl | (simp [errW_none, errW_some] <;> rfl) | (simp [*, errW_none, errW_some] <;> rfl), (qs HB)⟩
    ·rw [if_neg c8] at H
     have c8b0 : decide (0 < a2) = false := decide_eq_false c8
     clear c8
     obtain rfl := Option.some.inj H
     go_enter Tryz.func71, Tryz.ntmps71
     go_wp2_with (first | ((with_reducible refine qd 4 ?_); (try (refine gate_guard (by rfl) ?_; dsimp only)); refine qF (N := 4) (cs := (#[.int .i64 a1_0, .slice A1_1 l1_1.length c1_1, .int .u64 a1_2] ++ ((Ar.cells .u8 32 a1_3) ++ #[.int .u64 a1_4, .int .u64 a1_5]))) (t := 39) ?_; intro gb411 hg w11 hbox hb; have BK411 := Aside0.mk (hbox); have GW411 := Aside0.mk (qe HB hg); have GE411 := Aside0.mk (qe HB hg); replace HB := Aside0.mk (below_step (qs HB) hb); clear hb hbox hg) | ((with_reducible refine qd 14 ?_); (try (refine gate_guard (by rfl) ?_; dsimp only)); refine Ar.gload_event rfl (T := 39) rfl Tryz.underlying39 rfl (D := (#[.int .i64 a1_0, .slice A1_1 l1_1.length c1_1, .int .u64 a1_2] ++ ((Ar.cells .u8 32 a1_3) ++ #[.int .u64 a1_4, .int .u64 a1_5]))) qz (A := ⟨gb411, 0, none⟩) rfl (Ar.blk_part (qb BK411) Ar.in_whole) ?_) | (go_at_call 66; (try simp only [Array.push_eq_append]); (with_reducible refine (tape_Right.calls a1_0 _ _ l1_1 a1_2 a1_3 a1_4 a1_5 true _ ?side1 ?side2 A6.out).mono ?_); (case side1 => repeat (first | exact (Kd.C_below HR1_1.out HB.out) | (with_reducible refine Kd.C_alloc ?_ _) | (with_reducible refine Kd.C_drewN ?_ _) | (with_reducible refine Kd.C_drew ?_))); (case side2 => exact HC1_1.out); rintro e w12 ⟨rfl, hb⟩; replace BK411 := Aside0.mk (qB BK411 hb); replace HB := Aside0.mk (below_step (qs HB) hb); (try clear hb); (try clear hb2); (try clear hk); (try clear hi)))
     go_ret
     exact ⟨by first | rfl | (simp [errW_none, errW_some] <;> rfl) | (simp [*, errW_none, errW_some] <;> rfl), (qs HB)⟩
   ·replace c7 := Bool.eq_false_iff.mpr c7
    subst c7
    have H1 : (some false) = some r := by rw [if_neg (show ¬ (false = true) by decide)] at H; exact H
    clear H
    have H := H1
    clear H1
    obtain rfl := Option.some.inj H
    go_enter Tryz.func71, Tryz.ntmps71
    go_wp2_with (first | ((with_reducible refine qd 4 ?_); (try (refine gate_guard (by rfl) ?_; dsimp only)); refine qF (N := 4) (cs := (#[.int .i64 a1_0, .slice A1_1 l1_1.length c1_1, .int .u64 a1_2] ++ ((Ar.cells .u8 32 a1_3) ++ #[.int .u64 a1_4, .int .u64 a1_5]))) (t := 39) ?_; intro gb411 hg w13 hbox hb; have BK411 := Aside0.mk (hbox); have GW411 := Aside0.mk (qe HB hg); have GE411 := Aside0.mk (qe HB hg); replace HB := Aside0.mk (below_step (qs HB) hb); clear hb hbox hg) | ((with_reducible refine qd 14 ?_); (try (refine gate_guard (by rfl) ?_; dsimp only)); refine Ar.gload_event rfl (T := 39) rfl Tryz.underlying39 rfl (D := (#[.int .i64 a1_0, .slice A1_1 l1_1.length c1_1, .int .u64 a1_2] ++ ((Ar.cells .u8 32 a1_3) ++ #[.int .u64 a1_4, .int .u64 a1_5]))) qz (A := ⟨gb411, 0, none⟩) rfl (Ar.blk_part (qb BK411) Ar.in_whole) ?_) | (go_at_call 66; (try simp only [Array.push_eq_append]); (with_reducible refine (tape_Right.calls a1_0 _ _ l1_1 a1_2 a1_3 a1_4 a1_5 false _ ?side1 ?side2 A6.out).mono ?_); (case side1 => repeat (first | exact (Kd.C_below HR1_1.out HB.out) | (with_reducible refine Kd.C_alloc ?_ _) | (with_reducible refine Kd.C_drewN ?_ _) | (with_reducible refine Kd.C_drew ?_))); (case side2 => exact HC1_1.out); rintro e w14 ⟨rfl, hb⟩; replace BK411 := Aside0.mk (qB BK411 hb); replace HB := Aside0.mk (below_step (qs HB) hb); (try clear hb); (try clear hb2); (try clear hk); (try clear hi)))
    go_ret
    exact ⟨by first | rfl | (simp [errW_none, errW_some] <;> rfl) | (simp [*, errW_none, errW_some] <;> rfl), (qs HB)⟩
  ·rw [if_neg c5] at H
   have c5b0 : decide (a0 ≤ 256) = false := decide_eq_false c5
   clear c5
   obtain rfl := Option.some.inj H
   go_enter Tryz.func71, Tryz.ntmps71
   go_wp2_with (first | ((with_reducible refine qd 4 ?_); (try (refine gate_guard (by rfl) ?_; dsimp only)); refine qF (N := 4) (cs := (#[.int .i64 a1_0, .slice A1_1 l1_1.length c1_1, .int .u64 a1_2] ++ ((Ar.cells .u8 32 a1_3) ++ #[.int .u64 a1_4, .int .u64 a1_5]))) (t := 39) ?_; intro gb411 hg w15 hbox hb; have BK411 := Aside0.mk (hbox); have GW411 := Aside0.mk (qe HB hg); have GE411 := Aside0.mk (qe HB hg); replace HB := Aside0.mk (below_step (qs HB) hb); clear hb hbox hg))
   go_ret
   exact ⟨by first | rfl | (simp [errW_none, errW_some] <;> rfl) | (simp [*, errW_none, errW_some] <;> rfl), (qs HB)⟩
 ·rw [if_neg c4] at H
  have c4b0 : decide (0 ≤ a0) = false := decide_eq_false c4
  clear c4
  obtain rfl := Option.some.inj H
  go_enter Tryz.func71, Tryz.ntmps71
  go_wp2_with (first | ((with_reducible refine qd 4 ?_); (try (refine gate_guard (by rfl) ?_; dsimp only)); refine qF (N := 4) (cs := (#[.int .i64 a1_0, .slice A1_1 l1_1.length c1_1, .int .u64 a1_2] ++ ((Ar.cells .u8 32 a1_3) ++ #[.int .u64 a1_4, .int .u64 a1_5]))) (t := 39) ?_; intro gb411 hg w16 hbox hb; have BK411 := Aside0.mk (hbox); have GW411 := Aside0.mk (qe HB hg); have GE411 := Aside0.mk (qe HB hg); replace HB := Aside0.mk (below_step (qs HB) hb); clear hb hbox hg))
  go_ret
  exact ⟨by first | rfl | (simp [errW_none, errW_some] <;> rfl) | (simp [*, errW_none, errW_some] <;> rfl), (qs HB)⟩
def fen_Stakes.l0 : Nat → List Int → Int → Option (List Int)
 | 0, _, _ => none
 | k + 1, x3, x4 => if x4 > 0 then ((fen_low.f x4).bind fun t417 => (if (wrap64 (x4 + t417)) ≤ (x3.length : Int) then (if 0 ≤ (wrap64 ((wrap64 (x4 + t417)) - 1)) then (if (wrap64 ((wrap64 (x4 + t417)) - 1)) < (x3.length : Int) then (if 0 ≤ (wrap64 (x4 - 1)) then (if (wrap64 (x4 - 1)) < (x3.length : Int) then (fen_Stakes.l0 k (x3.set ((wrap64 ((wrap64 (x4 + t417)) - 1)) : Int).toNat (IntKind.u64.wrap ((rd x3 (wrap64 ((wrap64 (x4 + t417)) - 1))) - (rd x3 (wrap64 (x4 - 1)))))) (wrap64 (x4 - 1))) else (none)) else (none)) else (none)) else (none)) else (fen_Stakes.l0 k x3 (wrap64 (x4 - 1))))) else (some x3)
def fen_Stakes.f (k : Nat) (l0_0 : List Int) : Option (List Int) := (slices_Clone_uint64_uint64.f l0_0).bind fun t414 => (fen_Stakes.l0 k t414 (t414.length : Int))
theorem fen_Stakes.mono_l : ∀ k, (∀ y0 y1, LeO (fen_Stakes.l0 k y0 y1) (fen_Stakes.l0 (k + 1) y0 y1))
 | 0 => fun _ _ r h => by simp [fen_Stakes.l0] at h
 | k + 1 => by
  have ih0 := fen_Stakes.mono_l k
  ·intro y0 y1
   unfold fen_Stakes.l0
   repeat' first
   | (with_reducible exact ih0 _ _)
   | (with_reducible exact LeO.refl _)
   | (with_reducible exact LeO.none _)
   | (with_reducible refine LeO.ite ?_ ?_)
   | (with_reducible refine LeO.bind ?_ (fun _ => ?_))
   | exact ih0 _ _
   | exact LeO.none _
   | refine LeO.ite ?_ ?_
   | refine LeO.bind ?_ (fun _ => ?_)
theorem fen_Stakes.mono : ∀ a0 k, LeO (fen_Stakes.f k a0) (fen_Stakes.f (k + 1) a0) := by
 intro a0 k
 have ih0 := fen_Stakes.mono_l k
 unfold fen_Stakes.f
 repeat' first
   | (with_reducible exact ih0 _ _)
   | (with_reducible exact LeO.refl _)
   | (with_reducible exact LeO.none _)
   | (with_reducible refine LeO.ite ?_ ?_)
   | (with_reducible refine LeO.bind ?_ (fun _ => ?_))
   | exact ih0 _ _
   | exact LeO.none _
   | refine LeO.ite ?_ ?_
   | refine LeO.bind ?_ (fun _ => ?_)
def fen_Stakes.T7 : Bool × List (List Nat × List Nat) := (true, [([], []), ([], []), ([1], [1]), ([0, 2], [0, 2]), ([3], [3]), ([], []), ([], []), ([6], [6]), ([5, 7], [5, 7]), ([8], [8]), ([4, 9], [4, 9]), ([0, 2, 0, 1, 2, 3, 4, 5, 6, 7, 8, 9, 10], [0, 2]), ([11, 10, 0, 1, 2, 3, 4, 5, 6, 7, 8, 9, 10], [10, 11])])
def fen_Stakes.B7 : List Nat := [0, 0, 2, 7, 15, 0, 0, 64, 224, 480, 1023, 2047, 4095]
theorem fen_Stakes.tab7 : rtab .any (opsOf Tryz.f72 7) = fen_Stakes.T7 := by kernel_rfl
theorem fen_Stakes.bits7 : waitsOk fen_Stakes.T7.2 fen_Stakes.B7 = true := by kernel_rfl
set_option maxHeartbeats 8000000 in
set_option maxRecDepth 100000 in
theorem fen_Stakes.calls (k : Nat) (A0_0 : Option Addr) (c0_0 : Nat) (l0_0 : List Int) (r : List Int) (w : World) (hr0_0 : Kd.C (Kd.int .u64) w A0_0 l0_0.length l0_0) (hc0_0 : l0_0.length ≤ c0_0) (h : fen_Stakes.f k l0_0 = some r) :
  Calls Tryz.prog 72 #[.agg #[.slice A0_0 l0_0.length c0_0]] w fun e w' => ∃ v0_ : Value, e = .returned (v0_) ∧ Kd.R (Kd.int .u64) 24 w' w.heap.size (fun _ => True) v0_ r ∧ Below w.heap.size w w' := by
 have hu54 := Tryz.underlying54
 have HR0_0 := Aside0.mk hr0_0
 have HC0_0 := Aside0.mk hc0_0
 clear hr0_0 hc0_0
 have HB := Aside0.mk (Below.refl w.heap.size w)
 have H : ((slices_Clone_uint64_uint64.f l0_0).bind fun t414 => (fen_Stakes.l0 k t414 (t414.length : Int))) = some r := h
 clear h
 replace H := Option.bind_eq_some_iff.mp H
 obtain ⟨t414, A20, H⟩ := H
 try dsimp only at H
 have A2 := Aside0.mk A20
 clear A20
 have H' := Aside0.mk H
 clear H
 go_enter Tryz.func72, Tryz.ntmps72
 go_wp2_with (first | ((with_reducible refine qd 1 ?_); refine box_event ?hg (N := 1) ?hd (cs := #[.slice A0_0 l0_0.length c0_0]) (t := 54) ?hr ?_; (case hd => rfl); (case hg => rfl); (case hr => first | (go_simp; done) | (go_simp; rfl)); intro gb413 hg w3 hbox hb; have BK413 := Aside0.mk (hbox); have GW413 := Aside0.mk (qe HB hg); have GE413 := Aside0.mk (qe HB hg); replace HB := Aside0.mk (below_step (qs HB) hb); clear hb hbox hg; have hcz4_0 : w3.cell? ⟨gb413, 0, none⟩ = some (.slice A0_0 l0_0.length c0_0) := (blk_cell BK413.out 0).trans rfl; have hfz4_0 := blk_frozen BK413.out 0) | ((with_reducible refine gate_callee (f := 58) rfl ?_); refine goesL_ (some 8) rfl rfl Tryz.func58 (by kernel_rfl) rfl #[.slice A0_0 l0_0.length c0_0] rfl ql ?_; (with_reducible refine (slices_Clone_uint64_uint64.calls _ _ l0_0 t414 _ ?side1 ?side2 A2.out).mono ?_); (case side1 => repeat (first | exact (Kd.C_below HR0_0.out HB.out) | (with_reducible refine Kd.C_alloc ?_ _) | (with_reducible refine Kd.C_drewN ?_ _) | (with_reducible refine Kd.C_drew ?_))); (case side2 => exact HC0_0.out); rintro e w5 ⟨v415, rfl, ho0, hb⟩; refine ⟨_, rfl, ?_⟩; have HO416 := Aside0.mk (Kd.R_lower ho0 (below_size (qs HB))); replace BK413 := Aside0.mk (qB BK413 hb); replace HB := Aside0.mk (below_step (qs HB) hb); (try clear hb); (try clear hb2); (try clear hk); (try clear hi); (try clear ho0); obtain ⟨Ao6, co6, eo6⟩ := Kd.R_slice HO416.out; subst eo6))
 go_loopg [4] k (fun kq v4 w' => ∃ (x3_1 : List Int) (x4_1 : Int), v4 = .int .i64 x4_1 ∧ Aside0 (fen_Stakes.l0 kq x3_1 x4_1 = some r) ∧ Aside0 (kq ≤ k) ∧ Aside0 (Kd.R (Kd.int .u64) 24 w' w.heap.size (fun _ => True) (.slice Ao6 t414.length co6) x3_1) ∧ Aside0 (w'.heap[gb413]? = some (.cells #[(.slice A0_0 l0_0.length c0_0)] 54 (0, 0))) ∧ Aside0 (Below w.heap.size w w'))
 case atStart => exact ⟨(t414), ((t414.length : Int)), (by first | rfl | (simp; done) | (simp [*]; done)), H', ⟨Nat.le_refl _⟩, ⟨(qr HO416)⟩, ⟨(qb BK413)⟩, ⟨(qs HB)⟩⟩
 case round =>
  clear H'
  try clear p2
  try clear c5
  try clear hcz4_0
  try clear hfz4_0
  obtain ⟨x3_1, x4_1, rfl, HA, HK1, HO_3, BK413, HB⟩ := hrel
  have hl3_1 := (Kd.R_reads' HO_3.out).1
  rw [hl3_1] at HO_3
  (try simp only [hl3_1])
  (try simp only [hl3_1] at BK413)
  cases gk with
  | zero => exact absurd HA.out (by simp [fen_Stakes.l0])
  | succ k1 =>
   have H := HA.out
   clear HA
   simp only [fen_Stakes.l0] at H
   by_cases c7 : x4_1 > 0
   ·rw [if_pos c7] at H
    have c7b0 : decide (0 < x4_1) = true := decide_eq_true c7
    clear c7
    replace H := Option.bind_eq_some_iff.mp H
    obtain ⟨t417, A80, H⟩ := H
    try dsimp only at H
    have A8 := Aside0.mk A80
    clear A80
    by_cases c9 : (wrap64 (x4_1 + t417)) ≤ (x3_1.length : Int)
    ·rw [if_pos c9] at H
     have c9b0 : decide ((wrap64 (x4_1 + t417)) ≤ (x3_1.length : Int)) = true := decide_eq_true c9
     (try (have c9h0 := c9b0; simp only [hl3_1] at c9h0))
     clear c9
     obtain ⟨ji10, hji10⟩ : ∃ j_ : Int, (wrap64 ((wrap64 (x4_1 + t417)) - 1)) = j_ := ⟨_, rfl⟩
     replace H : (if 0 ≤ (ji10) then (if (ji10) < (x3_1.length : Int) then (if 0 ≤ (wrap64 (x4_1 - 1)) then (if (wrap64 (x4_1 - 1)) < (x3_1.length : Int) then (fen_Stakes.l0 k1 (x3_1.set ((ji10) : Int).toNat (IntKind.u64.wrap ((rd x3_1 (ji10)) - (rd x3_1 (wrap64 (x4_1 - 1)))))) (wrap64 (x4_1 - 1))) else (none)) else (none)) else (none)) else (none)) = some r := by first | (rw [hji10] at H; exact H) | (simp only [hji10] at H ⊢; exact H)
     (try rw [hji10] at A8)
     have hji10w : (IntKind.i64.wrap ((wrap64 (x4_1 + t417)) - 1)) = ji10 := (i64_w _).trans hji10
     by_cases c11 : 0 ≤ (ji10)
     ·rw [if_pos c11] at H
      have c11b0 : decide (0 ≤ (ji10)) = true := decide_eq_true c11
      clear c11
      by_cases c12 : (ji10) < (x3_1.length : Int)
      ·rw [if_pos c12] at H
       have c12b0 : decide ((ji10) < (x3_1.length : Int)) = true := decide_eq_true c12
       (try (have c12h0 := c12b0; simp only [hl3_1] at c12h0))
       clear c12
       obtain ⟨ji13, hji13⟩ : ∃ j_ : Int, (wrap64 (x4_1 - 1)) = j_ := ⟨_, rfl⟩
       replace H : (if 0 ≤ (ji13) then (if (ji13) < (x3_1.length : Int) then (fen_Stakes.l0 k1 (x3_1.set ((ji10) : Int).toNat (IntKind.u64.wrap ((rd x3_1 (ji10)) - (rd x3_1 (ji13))))) ji13) else (none)) else (none)) = some r := by first | (rw [hji13] at H; exact H) | (simp only [hji13] at H ⊢; exact H)
       (try rw [hji13] at A8)
       have hji13w : (IntKind.i64.wrap (x4_1 - 1)) = ji13 := (i64_w _).trans hji13
       by_cases c14 : 0 ≤ (ji13)
       ·rw [if_pos c14] at H
        have c14b0 : decide (0 ≤ (ji13)) = true := decide_eq_true c14
        clear c14
        by_cases c15 : (ji13) < (x3_1.length : Int)
        ·rw [if_pos c15] at H
         have c15b0 : decide ((ji13) < (x3_1.length : Int)) = true := decide_eq_true c15
         (try (have c15h0 := c15b0; simp only [hl3_1] at c15h0))
         clear c15
         obtain ⟨y420, hy420⟩ : ∃ y_ : List Int, y_ = (x3_1.set ((ji10) : Int).toNat (IntKind.u64.wrap ((rd x3_1 (ji10)) - (rd x3_1 (ji13))))) := ⟨_, rfl⟩
         replace H : (fen_Stakes.l0 k1 y420 ji13) = some r := by first | (rw [hy420]; with_reducible exact H) | (have H2_ := (Option.bind_some _ _).symm.trans H; rw [hy420]; with_reducible exact H2_) | (have H2_ := (Option.bind_some _ _).symm.trans H; with_reducible exact H2_) | with_reducible exact H | (rw [hy420]; exact H) | exact H
         have Ny420 := Aside0.mk hy420
         clear hy420
         have H' := Aside0.mk H
         clear H
         try go_wp2_with (first | ((with_reducible refine gate_callee (f := 59) rfl ?_); refine goesL_ (some 17) rfl rfl Tryz.func59 (by kernel_rfl) rfl #[.int .i64 x4_1] rfl ql ?_; (with_reducible refine (fen_low.calls x4_1 t417 _ A8.out).mono ?_); rintro e w' ⟨rfl, ⟨nd, rfl⟩⟩; refine ⟨_, rfl, ?_⟩; (try (rw [drewN_self wr]; generalize hq_ : World.drewN wr _ = wr; have n0_ : Aside0 (Kd.R (Kd.int .u64) 24 wr w.heap.size (fun _ => True) (.slice Ao6 x3_1.length co6) x3_1) := ⟨by rw [← hq_]; exact (qr HO_3)⟩; have n1_ : Aside0 (wr.heap[gb413]? = some (.cells #[.slice A0_0 l0_0.length c0_0] 54 (0, 0))) := ⟨by rw [← hq_]; exact (qb BK413)⟩; have n2_ : Aside0 (Below w.heap.size w wr) := ⟨by rw [← hq_]; exact (qs HB)⟩; clear HO_3 BK413 HB hq_; have HO_3 := n0_; have BK413 := n1_; have HB := n2_; clear n0_ n1_ n2_))))
         replace HO_3 := Aside0.mk (Kd.R_drew HO_3.out)
         replace BK413 := Aside0.mk (blk_drew BK413.out)
         replace HB := Aside0.mk (below_drew1 HB.out)
         have p418 : 0 ≤ ((ji10) : Int) := of_decide_eq_true qa
         have q418 : (ji10) < (x3_1.length : Int) := of_decide_eq_true qa
         obtain ⟨ad418, e418, hx418_0⟩ := Kd.at_int (Kd.R_reads' HO_3.out).2.2 (ji10) p418 q418
         cases e418
         replace p418 := eq_true p418
         replace q418 := eq_true q418
         have p419 : 0 ≤ ((ji13) : Int) := of_decide_eq_true qa
         have q419 : (ji13) < (x3_1.length : Int) := of_decide_eq_true qa
         obtain ⟨ad419, e419, hx419_0⟩ := Kd.at_int (Kd.R_reads' HO_3.out).2.2 (ji13) p419 q419
         obtain rfl : ad418 = ad419 := (by injection e419)
         replace p419 := eq_true p419
         replace q419 := eq_true q419
         have p16 : 0 ≤ ((ji10) : Int) := of_decide_eq_true qa
         have q16 : ((ji10) : Int) < ((x3_1.length : Int) : Int) := of_decide_eq_true qa
         obtain ⟨go16, co16, eo16, gb16, gl16, cl16, HG16⟩ := Kd.R_form HO_3.out (by omega)
         (first | cases eo16 | (injection eo16 with ea_ en_ ec_; (first | subst ea_ | (injection ea_ with ea_; subst ea_)); subst ec_; clear en_))
         have GB16 := Aside0.mk gb16
         have GG16 := Aside0.mk HG16
         clear gb16 gl16 HG16
         (first | simp only [add_plain] at hx418_0 | skip)
         (first | simp only [add_plain] at hx419_0 | skip)
         obtain ⟨hx16_0, hf16_0⟩ := Kd.R_celln 0 HO_3.out ((ji10) : Int) p16 q16
         replace p16 := eq_true p16
         replace q16 := eq_true q16
         have HP18 := Kd.R_putn HO_3.out ((ji10) : Int) (IntKind.u64.wrap ((rd x3_1 (ji10)) - (rd x3_1 (ji13))))
         rw [← Ny420.out] at HP18
         have HQ18 := Aside0.mk HP18
         clear HP18
         refine start_ (n := 13) (S := fun w' => w'.cell? ⟨go16, ((ji10)).toNat, none⟩ = some (.int .u64 (rd x3_1 (ji10))) ∧ w'.cell? ⟨go16, ((ji13)).toNat, none⟩ = some (.int .u64 (rd x3_1 (ji13)))) (ds := [12]) #[false, false, false, false, false, false, false, false, false, false, false, false, false] (by kernel_rfl) rfl rfl ⟨hx418_0, hx419_0⟩ (fun hHeld => ?_); refine with_tabW fen_Stakes.tab7 fen_Stakes.bits7 (fun HT_ HW_ => ?_)
         generalize wr.drew = w17 at HO_3 BK413 HB GG16 HQ18 hf16_0 hx16_0 hx418_0 hx419_0 hHeld ⊢
         refine qQ 0 (some 23) (qt 13 1) (any_of HT_.out (by kernel_rfl)) ?_
         refine qQ 1 (some 24) (qt 13 3) (any_of HT_.out (by kernel_rfl)) ?_
         refine qQ 2 (some 25) (qt 13 7) (any_of HT_.out (by kernel_rfl)) ?_
         refine qQ 3 (some 26) (qt 13 15) (any_of HT_.out (by kernel_rfl)) ?_
         refine qQ 5 (some 28) (qt 13 47) (any_of HT_.out (by kernel_rfl)) ?_
         refine qQ 6 (some 29) (qt 13 111) (any_of HT_.out (by kernel_rfl)) ?_
         refine qQ 7 (some 30) (qt 13 239) (any_of HT_.out (by kernel_rfl)) ?_
         refine qQ 8 (some 31) (qt 13 495) (any_of HT_.out (by kernel_rfl)) ?_
         refine take_ (i := 4) (N := some 27) (v := ?_) (a' := ?_) (qt 13 511) rfl rfl (take_ofW HT_.out HW_.out (by kernel_rfl)) (fun _ _ _ h => h) (Or.inl ⟨by rfl, ?_⟩) hHeld ?_ ?_
         rotate_left
         ·rintro w' ⟨s0, s1⟩
          go_simp
          with_reducible rfl
         rotate_left
         ·simp only [Act.put, zA_, zB_, zC_, i64_w, i32_w]
          rfl
         refine take_ (i := 9) (N := some 32) (v := ?_) (a' := ?_) (qt 13 1023) rfl rfl (take_ofW HT_.out HW_.out (by kernel_rfl)) (fun _ _ _ h => h) (Or.inl ⟨by rfl, ?_⟩) hHeld ?_ ?_
         rotate_left
         ·rintro w' ⟨s0, s1⟩
          go_simp
          with_reducible rfl
         rotate_left
         ·simp only [Act.put, zA_, zB_, zC_, i64_w, i32_w]
          rfl
         refine qQ 10 (some 33) (qt 13 2047) (any_of HT_.out (by kernel_rfl)) ?_
         refine qQ 11 (some 34) (qt 13 4095) (any_of HT_.out (by kernel_rfl)) ?_
         refine last_ (i := 12) (N := none) (qt 13 8191) rfl rfl (one_of HT_.out (by kernel_rfl)) (by decide) (fun K hK => ?_)
         refine skip_ (w1 := ?_) (by rfl) rfl ?_ ?_
         rotate_left
         ·go_simp
          rfl
         refine hK.out _ _ ?_
         clear hK K
         refine done_ (done_of HT_.out (by kernel_rfl)) ?_
         try go_wp2
         (try simp only [← hl3_1])
         go_roundg k1
         case measure => have := HK1.out; omega
         case rel => exact ⟨(y420), (ji13), (by first | rfl | (simp; done) | (simp only [← hji13] <;> (first | rfl | simp)) | (simp [*]; done)), H', ⟨by have := HK1.out; omega⟩, ⟨by (try simp only [hl3_1]); (with_reducible repeat (first | apply Kd.R_alloc | apply Kd.R_drewN | apply Kd.R_drew)); exact HQ18.out⟩, ⟨by (try simp only [hl3_1]); (with_reducible repeat (first | refine blk_drewN ?_ _ | refine blk_drew ?_ | refine blk_alloc ?_ _)); refine blk_far ?_ (by have h_ := Kd.R_ne HO_3.out BK413.out (by decide); intro e_; exact h_ (by rw [e_]; rfl)) _; (with_reducible repeat (first | refine blk_drewN ?_ _ | refine blk_drew ?_ | refine blk_alloc ?_ _)); exact BK413.out⟩, ⟨by repeat (first | (with_reducible first | exact HB.out | apply below_alloc | apply pw_below_drewN | apply below_drew1 | refine below_set ?_ GB16.out | refine below_set ?_ GE413.out) | exact HB.out)⟩⟩
        ·rw [if_neg c15] at H
         exact absurd H (by simp)
       ·rw [if_neg c14] at H
        exact absurd H (by simp)
      ·rw [if_neg c12] at H
       exact absurd H (by simp)
     ·rw [if_neg c11] at H
      exact absurd H (by simp)
    ·rw [if_neg c9] at H
     have c9b0 : decide ((wrap64 (x4_1 + t417)) ≤ (x3_1.length : Int)) = false := decide_eq_false c9
     (try (have c9h0 := c9b0; simp only [hl3_1] at c9h0))
     clear c9
     have H' := Aside0.mk H
     clear H
     go_wp2_with (first | ((with_reducible refine gate_callee (f := 59) rfl ?_); refine goesL_ (some 17) rfl rfl Tryz.func59 (by kernel_rfl) rfl #[.int .i64 x4_1] rfl ql ?_; (with_reducible refine (fen_low.calls x4_1 t417 _ A8.out).mono ?_); rintro e w' ⟨rfl, ⟨nd, rfl⟩⟩; refine ⟨_, rfl, ?_⟩))
     (try simp only [← hl3_1])
     go_roundg k1
     case measure => have := HK1.out; omega
     case rel => exact ⟨(x3_1), (wrap64 (x4_1 - 1)), (by first | rfl | (simp; done) | (simp [*]; done)), H', ⟨by have := HK1.out; omega⟩, ⟨by (try simp only [hl3_1]); (with_reducible repeat (first | apply Kd.R_alloc | apply Kd.R_drewN | apply Kd.R_drew)); exact HO_3.out⟩, ⟨by (try simp only [hl3_1]); (with_reducible repeat (first | refine blk_drewN ?_ _ | refine blk_drew ?_ | refine blk_alloc ?_ _)); exact BK413.out⟩, ⟨(qs HB)⟩⟩
   ·rw [if_neg c7] at H
    have c7b0 : decide (0 < x4_1) = false := decide_eq_false c7
    clear c7
    obtain rfl := Option.some.inj H
    go_wp2
    go_ret
    exact ⟨_, by first | rfl | (simp [errW_none, errW_some] <;> rfl) | (simp [*, errW_none, errW_some] <;> rfl), (qr HO_3), (qs HB)⟩
def fen_At.j0 : Nat → Int → Bool → List Int → Option (Int × Int)
 | 0, _, _, _ => none
 | k + 1, x1, x13, x422000 => if x13 = true then (none) else ((fen_prefix.f k x422000 (wrap64 (x1 + 1))).bind fun t423 => ((fen_prefix.f k x422000 x1).bind fun t424 => (some (IntKind.u64.wrap (t423 - t424), 0))))
def fen_At.f (k : Nat) (l0_0 : List Int) (a1 : Int) : Option (Int × Int) := if a1 < 0 then (fen_At.j0 k a1 true l0_0) else ((fen_Len.f l0_0).bind fun t422 => (fen_At.j0 k a1 (decide (a1 ≥ t422)) l0_0))
theorem fen_At.mono_l : ∀ k, (∀ y0 y1 y2, LeO (fen_At.j0 k y0 y1 y2) (fen_At.j0 (k + 1) y0 y1 y2))
 | 0 => fun _ _ _ r h => by simp [fen_At.j0] at h
 | k + 1 => by
  have ih0 := fen_At.mono_l k
  ·intro y0 y1 y2
   unfold fen_At.j0
   repeat' first
   | (with_reducible exact ih0 _ _ _)
   | (with_reducible exact fen_prefix.mono _ _ _)
   | (with_reducible exact LeO.refl _)
   | (with_reducible exact LeO.none _)
   | (with_reducible refine LeO.ite ?_ ?_)
   | (with_reducible refine LeO.bind ?_ (fun _ => ?_))
   | exact ih0 _ _ _
   | exact fen_prefix.mono _ _ _
   | exact LeO.none _
   | refine LeO.ite ?_ ?_
   | refine LeO.bind ?_ (fun _ => ?_)
theorem fen_At.mono : ∀ a0 a1 k, LeO (fen_At.f k a0 a1) (fen_At.f (k + 1) a0 a1) := by
 intro a0 a1 k
 have ih0 := fen_At.mono_l k
 unfold fen_At.f
 repeat' first
   | (with_reducible exact ih0 _ _ _)
   | (with_reducible exact fen_prefix.mono _ _ _)
   | (with_reducible exact LeO.refl _)
   | (with_reducible exact LeO.none _)
   | (with_reducible refine LeO.ite ?_ ?_)
   | (with_reducible refine LeO.bind ?_ (fun _ => ?_))
   | exact ih0 _ _ _
   | exact fen_prefix.mono _ _ _
   | exact LeO.none _
   | refine LeO.ite ?_ ?_
   | refine LeO.bind ?_ (fun _ => ?_)
def fen_At.T3 : Bool × List (List Nat × List Nat) := (true, [([], []), ([], []), ([1], [1]), ([0, 2], [0, 2]), ([], []), ([], []), ([4, 5, 3], [4, 5]), ([3, 6], [3, 6]), ([7, 6, 0, 1, 2, 3, 4, 5, 6, 7], [7]), ([8, 0, 1, 2, 3, 4, 5, 6, 7, 8], [])])
def fen_At.B3 : List Nat := [0, 0, 2, 7, 0, 0, 63, 127, 255, 511]
theorem fen_At.tab3 : rtab .any (opsOf Tryz.f98 3) = fen_At.T3 := by kernel_rfl
theorem fen_At.bits3 : waitsOk fen_At.T3.2 fen_At.B3 = true := by kernel_rfl
set_option maxHeartbeats 8000000 in
set_option maxRecDepth 100000 in
theorem fen_At.calls (k : Nat) (A0_0 : Option Addr) (c0_0 : Nat) (l0_0 : List Int) (a1 : Int) (r1 : Int) (r2 : Int) (w : World) (hr0_0 : Kd.C (Kd.int .u64) w A0_0 l0_0.length l0_0) (hc0_0 : l0_0.length ≤ c0_0) (h : fen_At.f k l0_0 a1 = some (r1, r2)) :
  Calls Tryz.prog 98 #[.agg #[.slice A0_0 l0_0.length c0_0], .int .i64 a1] w fun e w' => e = .returned (.tuple #[.int .u64 r1, .int .i64 r2]) ∧ Below w.heap.size w w' := by
 have hu54 := Tryz.underlying54
 have HR0_0 := Aside0.mk hr0_0
 have HC0_0 := Aside0.mk hc0_0
 clear hr0_0 hc0_0
 have HB := Aside0.mk (Below.refl w.heap.size w)
 have H : (if a1 < 0 then (fen_At.j0 k a1 true l0_0) else ((fen_Len.f l0_0).bind fun t422 => (fen_At.j0 k a1 (decide (a1 ≥ t422)) l0_0))) = some (r1, r2) := h
 clear h
 have HC3 := Aside0.mk H
 clear H
 go_enter Tryz.func98, Tryz.ntmps98
 go_upto_region 1 with (first | ((with_reducible refine qd 2 ?_); refine box_event ?hg (N := 2) ?hd (cs := #[.slice A0_0 l0_0.length c0_0]) (t := 54) ?hr ?_; (case hd => rfl); (case hg => rfl); (case hr => first | (go_simp; done) | (go_simp; rfl)); intro gb421 hg w4 hbox hb; have BK421 := Aside0.mk (hbox); have GW421 := Aside0.mk (qe HB hg); have GE421 := Aside0.mk (qe HB hg); replace HB := Aside0.mk (below_step (qs HB) hb); clear hb hbox hg))
 (try simp only [Act.put, zA_, zB_, zC_])
 go_cut [13] (fun v13 wc => ∃ (kq : Nat) (x13_2 : Bool), v13 = .bool x13_2 ∧ Aside0 (fen_At.j0 kq a1 x13_2 l0_0 = some (r1, r2)) ∧ Aside0 (kq ≤ k) ∧ Aside0 (wc.heap[gb421]? = some (.cells #[(.slice A0_0 l0_0.length c0_0)] 54 (0, 0))) ∧ Aside0 (Below w.heap.size w wc))
 case first =>
  have H := HC3.out
  clear HC3
  by_cases c5 : a1 < 0
  ·rw [if_pos c5] at H
   have c5b0 : decide (a1 < 0) = true := decide_eq_true c5
   clear c5
   (first | rw [c5b0] | (simp only [i64_w, i32_w]; rw [c5b0]) | skip)
   have H' := Aside0.mk H
   clear H
   go_wp2
   go_meet
   case rel => exact ⟨_, (true), (by first | rfl | (simp; done) | (simp [*]; done)), H', ⟨by first | omega | exact Nat.le_refl _⟩, ⟨(qb BK421)⟩, ⟨(qs HB)⟩⟩
  ·rw [if_neg c5] at H
   have c5b0 : decide (a1 < 0) = false := decide_eq_false c5
   clear c5
   (first | rw [c5b0] | (simp only [i64_w, i32_w]; rw [c5b0]) | skip)
   replace H := Option.bind_eq_some_iff.mp H
   obtain ⟨t422, A60, H⟩ := H
   try dsimp only at H
   have A6 := Aside0.mk A60
   clear A60
   have H' := Aside0.mk H
   clear H
   have hcz7_0 : w4.cell? ⟨gb421, 0, none⟩ = some (.slice A0_0 l0_0.length c0_0) := (blk_cell BK421.out 0).trans rfl
   have hfz7_0 := blk_frozen BK421.out 0
   go_wp2_with (first | (go_at_call 62; (with_reducible refine (fen_Len.calls _ _ l0_0 t422 _ ?side1 ?side2 A6.out).mono ?_); (case side1 => repeat (first | exact (Kd.C_below HR0_0.out HB.out) | (with_reducible refine Kd.C_alloc ?_ _) | (with_reducible refine Kd.C_drewN ?_ _) | (with_reducible refine Kd.C_drew ?_))); (case side2 => exact HC0_0.out); rintro e w8 ⟨rfl, hb⟩; replace BK421 := Aside0.mk (qB BK421 hb); replace HB := Aside0.mk (below_step (qs HB) hb); (try clear hb); (try clear hb2); (try clear hk); (try clear hi)))
   go_meet
   case rel => exact ⟨_, (decide (a1 ≥ t422)), (by first | rfl | (simp; done) | (simp [*]; done)), H', ⟨by first | omega | exact Nat.le_refl _⟩, ⟨(qb BK421)⟩, ⟨(qs HB)⟩⟩
 case rest =>
  clear HC3
  try clear p2
  try clear c5
  try clear c5b0
  try clear hcz7_0
  try clear hfz7_0
  obtain ⟨kq, x13_2, rfl, HA, HJ2, BK421, HB⟩ := hcut
  cases kq with
  | zero => exact absurd HA.out (by simp [fen_At.j0])
  | succ kj2 =>
   have H := HA.out
   clear HA
   simp only [fen_At.j0] at H
   by_cases c9 : x13_2 = true
   ·subst c9
    have H1 : (none) = some (r1, r2) := by rw [if_pos rfl] at H; exact H
    clear H
    have H := H1
    clear H1
    exact absurd H (by simp)
   ·replace c9 := Bool.eq_false_iff.mpr c9
    subst c9
    have H1 : ((fen_prefix.f kj2 l0_0 (wrap64 (a1 + 1))).bind fun t423 => ((fen_prefix.f kj2 l0_0 a1).bind fun t424 => (some (IntKind.u64.wrap (t423 - t424), 0)))) = some (r1, r2) := by rw [if_neg (show ¬ (false = true) by decide)] at H; exact H
    clear H
    have H := H1
    clear H1
    replace H := Option.bind_eq_some_iff.mp H
    obtain ⟨t423, A100, H⟩ := H
    try dsimp only at H
    have A10 := Aside0.mk A100
    clear A100
    replace H := Option.bind_eq_some_iff.mp H
    obtain ⟨t424, A110, H⟩ := H
    try dsimp only at H
    have A11 := Aside0.mk A110
    clear A110
    simp only [Option.some.injEq, Prod.mk.injEq] at H
    obtain ⟨rfl, rfl⟩ := H
    try go_wp2
    replace BK421 := Aside0.mk (blk_drew BK421.out)
    replace HB := Aside0.mk (below_drew1 HB.out)
    refine start_ (n := 10) (S := fun w' => w'.cell? ⟨gb421, 0, none⟩ = some (.slice A0_0 l0_0.length c0_0)) (ds := []) #[false, false, false, false, false, false, false, false, false, false] (by kernel_rfl) rfl rfl ((blk_cell BK421.out 0).trans rfl) (fun hHeld => ?_); refine with_tabW fen_At.tab3 fen_At.bits3 (fun HT_ HW_ => ?_)
    generalize wc.drew = w12 at BK421 HB hHeld ⊢
    refine qQ 1 (some 15) (qt 10 2) (any_of HT_.out (by kernel_rfl)) ?_
    refine qQ 2 (some 16) (qt 10 6) (any_of HT_.out (by kernel_rfl)) ?_
    refine qQ 5 (some 19) (qt 10 38) (any_of HT_.out (by kernel_rfl)) ?_
    refine take_ (i := 0) (N := some 14) (v := ?_) (a' := ?_) (qt 10 39) rfl rfl (take_ofW HT_.out HW_.out (by kernel_rfl)) (fun _ _ _ h => h) (Or.inl ⟨by rfl, ?_⟩) hHeld ?_ ?_
    rotate_left
    ·intro w' s0
     go_simp
     with_reducible rfl
    rotate_left
    ·simp only [Act.put, zA_, zB_, zC_, i64_w, i32_w]
     rfl
    refine take_ (i := 4) (N := some 18) (v := ?_) (a' := ?_) (qt 10 55) rfl rfl (take_ofW HT_.out HW_.out (by kernel_rfl)) (fun _ _ _ h => h) (Or.inl ⟨by rfl, ?_⟩) hHeld ?_ ?_
    rotate_left
    ·intro w' s0
     go_simp
     with_reducible rfl
    rotate_left
    ·simp only [Act.put, zA_, zB_, zC_, i64_w, i32_w]
     rfl
    refine one_ (i := 3) (N := some 17) (qt 10 63) rfl rfl (one_of HT_.out (by kernel_rfl)) (by decide) (fun K hK => ?_)
    refine goes_ Tryz.func86 (by kernel_rfl) rfl #[.agg #[.slice A0_0 l0_0.length c0_0], .int .i64 (wrap64 (a1 + 1))] (by rfl) rfl rfl ql ?_
    with_reducible refine (fen_prefix.calls kj2 _ _ l0_0 (wrap64 (a1 + 1)) t423 _ ?side1 ?side2 A10.out).mono ?_
    (case side1 => repeat (first | exact (Kd.C_below HR0_0.out HB.out) | (with_reducible refine Kd.C_alloc ?_ _) | (with_reducible refine Kd.C_drewN ?_ _) | (with_reducible refine Kd.C_drew ?_)))
    (case side2 => exact HC0_0.out)
    rintro e w13 ⟨rfl, hb⟩
    refine ⟨_, rfl, ?_⟩
    replace BK421 := Aside0.mk (qB BK421 hb)
    replace HB := Aside0.mk (below_step (qs HB) hb)
    (try clear hb)
    (try clear hb2)
    (try clear hk)
    (try clear hi)
    refine hK.out _ _ ((blk_cell BK421.out 0).trans rfl) (fun hHeld => ?_)
    clear hK K
    refine norm_ (a' := ?_) ?_ ?_
    rotate_left
    ·show Act.put _ (some 17) _ = _
     simp only [Act.put, zA_, zB_, zC_, i64_w, i32_w]
     rfl
    refine one_ (i := 6) (N := some 20) (qt 10 127) rfl rfl (one_of HT_.out (by kernel_rfl)) (by decide) (fun K hK => ?_)
    refine goes_ Tryz.func86 (by kernel_rfl) rfl #[.agg #[.slice A0_0 l0_0.length c0_0], .int .i64 a1] (by rfl) rfl rfl ql ?_
    with_reducible refine (fen_prefix.calls kj2 _ _ l0_0 a1 t424 _ ?side1 ?side2 A11.out).mono ?_
    (case side1 => repeat (first | exact (Kd.C_below HR0_0.out HB.out) | (with_reducible refine Kd.C_alloc ?_ _) | (with_reducible refine Kd.C_drewN ?_ _) | (with_reducible refine Kd.C_drew ?_)))
    (case side2 => exact HC0_0.out)
    rintro e w14 ⟨rfl, hb⟩
    refine ⟨_, rfl, ?_⟩
    replace BK421 := Aside0.mk (qB BK421 hb)
    replace HB := Aside0.mk (below_step (qs HB) hb)
    (try clear hb)
    (try clear hb2)
    (try clear hk)
    (try clear hi)
    refine hK.out _ _ ((blk_cell BK421.out 0).trans rfl) (fun hHeld => ?_)
    clear hK K
    refine norm_ (a' := ?_) ?_ ?_
    rotate_left
    ·show Act.put _ (some 20) _ = _
     simp only [Act.put, zA_, zB_, zC_, i64_w, i32_w]
     rfl
    refine qQ 7 (some 21) (qt 10 255) (any_of HT_.out (by kernel_rfl)) ?_
    refine qQ 8 (some 4) (qt 10 511) (any_of HT_.out (by kernel_rfl)) ?_
    refine qQ 9 (some 5) (qt 10 1023) (any_of HT_.out (by kernel_rfl)) ?_
    refine done_ (done_of HT_.out (by kernel_rfl)) ?_
    try go_wp2
    go_ret2
    exact ⟨by first | rfl | (simp [errW_none, errW_some] <;> rfl) | (simp [*, errW_none, errW_some] <;> rfl), (qs HB)⟩
end Go.Proofs.YtekmngghebpciaaGreat.PW
end
