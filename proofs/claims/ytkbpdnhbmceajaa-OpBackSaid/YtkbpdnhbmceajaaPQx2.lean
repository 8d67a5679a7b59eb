/- Written by xprint.py, this session's own driver, for the seat Ytkbpdnhbmceajaa: contracts of Go functions, each saying that a call answers what a plain Lean function of the same name says, and, in a text named Law, the row of a law: its Go function answers true for every input. No conditions. -/
import Derived.Test.YtkbpdnhbmceajaaPQx0
import Derived.Test.YtkbpdnhbmceajaaPQx1
namespace Go.Proofs.Ytkbpdnhbmceajaa.PQ
open Go.RowKit Go.Proofs.YtkbpdnhbmceajaaW.PrintWords Go.Proofs.YtkbpdnhbmceajaaW.PrintLast Go.Proofs.YtkbpdnhbmceajaaW.PrintMore
attribute [local go_sem] max2_int min2_int max_two min_two max_three min_three max_four min_four   -- for this text's walks alone
set_option linter.unusedVariables false
set_option linter.unusedSimpArgs false

/-! ### op_fields: function 25 -/
/-- The cells of an operation. -/
abbrev opC (o : S39) : Array Value := #[.int .i64 o.f0, .int .i64 o.f1, .int .u64 o.f2] ++ (Ar.cells .u8 32 o.f3 ++ #[.int .i64 o.f4])
theorem opC_0 (o : S39) : (opC o).toList[0]? = some (.int .i64 o.f0) := Ar.at_head rfl
theorem opC_1 (o : S39) : (opC o).toList[1]? = some (.int .i64 o.f1) := Ar.at_head rfl
theorem opC_2 (o : S39) : (opC o).toList[2]? = some (.int .u64 o.f2) := Ar.at_head rfl
theorem opC_35 (o : S39) : (opC o).toList[35]? = some (.int .i64 o.f4) := Ar.at_skip (a := 3) (c := 32) rfl (Ar.at_skip (a := 32) (c := 0) (by simp [Ar.cells_size]) rfl)
theorem opC_h (o : S39) : ∀ (j : Nat) (v : Value), (Ar.cells .u8 32 o.f3).toList[j]? = some v → (opC o).toList[3 + j]? = some v := Ar.in_mid rfl
theorem opC_set1 (o : S39) (z : Int) : (opC o).setIfInBounds 1 (.int .i64 z) = opC { o with f1 := z } := by
  rw [opC, Ar.set_head _ (by simp)]
  rfl
theorem opC_set2 (o : S39) (z : Int) : (opC o).setIfInBounds 2 (.int .u64 z) = opC { o with f2 := z } := by
  rw [opC, Ar.set_head _ (by simp)]
  rfl
theorem opC_set35 (o : S39) (z : Int) : (opC o).setIfInBounds 35 (.int .i64 z) = opC { o with f4 := z } := by
  rw [opC, show (35 : Nat) = 3 + (32 + 0) from rfl, Ar.set_tail (a := 3) (c := 32 + 0) _ rfl, Ar.set_tail (a := 32) (c := 0) _ (by simp [Ar.cells_size])]
  rfl
/-- What a slice of n bytes reads, cell by cell. -/
theorem row_at {k : IntKind} {w : World} {A : Option Addr} {n : Nat} {b : List Int} (hs : Kd.C (Kd.int k) w A n b) (hl : b.length = n) (h0 : 0 < n) : ∃ ad, A = some ad ∧ ∀ j : Nat, j < n → w.cell? (ad.add j) = some (.int k (Ar.get n b j)) := by
  obtain ⟨ad, e, _⟩ := Kd.at_int hs 0 (by omega) (by omega)
  refine ⟨ad, e, fun j hj => ?_⟩
  obtain ⟨ad2, e2, hx⟩ := Kd.at_int hs (j : Int) (by omega) (by omega)
  rw [e] at e2
  injection e2 with e2
  subst e2
  rw [Int.toNat_natCast] at hx
  rw [hx]
  unfold Ar.get
  rw [Ar.fit_id hl]
theorem op_who1.calls (g : Nat) (w : World) : Calls Try.prog 45 #[.pointer (some ⟨g, 0, none⟩)] w fun e w' => e = .returned (.pointer (some ⟨g, 1, none⟩)) ∧ w' = w := by
  go_enter Try.func45, Try.ntmps45
  go_wp2
  go_ret
  exact ⟨rfl, rfl⟩
theorem op_number1.calls (g : Nat) (w : World) : Calls Try.prog 46 #[.pointer (some ⟨g, 0, none⟩)] w fun e w' => e = .returned (.pointer (some ⟨g, 35, none⟩)) ∧ w' = w := by
  go_enter Try.func46, Try.ntmps46
  go_wp2
  go_ret
  exact ⟨rfl, rfl⟩
set_option maxHeartbeats 8000000 in
set_option maxRecDepth 100000 in
theorem op_small1.who (o : S39) (r : List Int) (gq : Nat) (w : World) (hq : w.heap[gq]? = some (.cells #[.func (.func 45) #[] #[]] 69 (0, 0))) (h : word_Put32.f (IntKind.u32.wrap o.f1) = some r) (hr : r.length = 4) :
    Calls Try.prog 47 #[.agg (opC o), .pointer (some ⟨gq, 0, none⟩)] w fun e w' => ∃ A c, e = .returned (.slice A 4 c) ∧ 4 ≤ c ∧ Kd.C (Kd.int .u8) w' A 4 r ∧ Below w.heap.size w w' := by
  have HB := Aside0.mk (Below.refl w.heap.size w)
  have HQ := Aside0.mk hq
  have H' := Aside0.mk h
  have HR := Aside0.mk hr
  clear hq h hr
  go_enter Try.func47, Try.ntmps47
  go_wp2_with (first | ((with_reducible refine gate_dst (N := 2) rfl ?_); refine box_event ?hg (N := 2) ?hd (cs := opC o) (t := 39) ?hr ?_; (case hd => rfl); (case hg => rfl); (case hr => exact Ar.gbox_run rfl rfl); intro gb hg wx hbox hb; have n0_ := Aside0.mk (below_step (by repeat (first | (with_reducible first | exact HB.out | apply below_alloc | apply pw_below_drewN | apply below_drew1) | exact HB.out)) hb); have n1_ := Aside0.mk (blk_below (g := gq) (o := .cells #[.func (.func 45) #[] #[]] 69 (0, 0)) (by (with_reducible repeat (first | refine blk_drewN ?_ _ | refine blk_drew ?_ | refine blk_alloc ?_ _)); exact HQ.out) hb); have n2_ := Aside0.mk (hbox); have n3_ := Aside0.mk ((by rw [hg]; exact below_size (by repeat (first | (with_reducible first | exact HB.out | apply below_alloc | apply pw_below_drewN | apply below_drew1) | exact HB.out)) : w.heap.size ≤ gb)); clear HB HQ; have HB := n0_; have HQ := n1_; have BK := n2_; have GEBK := n3_; clear n0_ n1_ n2_ n3_; clear hb hbox hg) | ((with_reducible refine gate_dst (N := 5) rfl ?_); refine Ar.cload_event rfl (T := 69) rfl Try.underlying69 rfl (A := ⟨gq, 0, none⟩) rfl (v := .func (.func 45) #[] #[]) (Ar.blk_at (by (with_reducible repeat (first | refine blk_drewN ?_ _ | refine blk_drew ?_ | refine blk_alloc ?_ _)); exact HQ.out) rfl) ?_))
  refine (op_who1.calls gb _).mono ?_
  rintro e wy ⟨rfl, rfl⟩
  dsimp only
  go_wp2_with (first | ((with_reducible refine gate_dst (N := 8) rfl ?_); refine Ar.cload_event rfl (T := 3) rfl Try.underlying3 rfl (A := ⟨gb, 1, none⟩) rfl (v := .int .i64 o.f1) (Ar.blk_at (by (with_reducible repeat (first | refine blk_drewN ?_ _ | refine blk_drew ?_ | refine blk_alloc ?_ _)); exact BK.out) (opC_1 o)) ?_) | ((with_reducible refine gate_callee (f := 48) rfl ?_); refine goesL_ (some 10) rfl rfl Try.func48 (by kernel_rfl) rfl #[.int .u32 (IntKind.u32.wrap o.f1)] rfl (by (try simp only [List.map_toArray, List.map_cons, List.map_nil]); first | done | rfl) ?_; refine (word_Put32.calls (IntKind.u32.wrap o.f1) r _ H'.out).mono ?_; rintro e wx ⟨rfl, hb⟩; refine ⟨_, rfl, ?_⟩; have n0_ := Aside0.mk (below_step (by repeat (first | (with_reducible first | exact HB.out | apply below_alloc | apply pw_below_drewN | apply below_drew1) | exact HB.out)) hb); clear HB; have HB := n0_; clear n0_; clear hb) | ((with_reducible refine gate_dst (N := 4) rfl ?_); refine box_event ?hg (N := 4) ?hd (cs := Ar.cells .u8 4 (List.replicate 4 0)) (t := 60) ?hr ?_; (case hd => rfl); (case hg => rfl); (case hr => exact Ar.alloc_run rfl (by kernel_rfl)); intro gb2 hg wx hbox hb; have n0_ := Aside0.mk (below_step (by repeat (first | (with_reducible first | exact HB.out | apply below_alloc | apply pw_below_drewN | apply below_drew1) | exact HB.out)) hb); have n1_ := Aside0.mk (hbox); have n2_ := Aside0.mk ((by rw [hg]; exact below_size (by repeat (first | (with_reducible first | exact HB.out | apply below_alloc | apply pw_below_drewN | apply below_drew1) | exact HB.out)) : w.heap.size ≤ gb2)); clear HB; have HB := n0_; have BK2 := n1_; have GEBK2 := n2_; clear n0_ n1_ n2_; clear hb hbox hg) | ((with_reducible refine gate_store (t := 60) (p := 4) rfl ?_); refine Ar.store_all_event rfl rfl rfl Try.underlying60 (by kernel_rfl) (g := gb2) rfl (z := r) (by first | rfl | (go_simp; done) | (go_simp; rfl)) (by (with_reducible repeat (first | refine blk_drewN ?_ _ | refine blk_drew ?_ | refine blk_alloc ?_ _)); exact BK2.out) ?_; intro wz hbk_ hg; have n0_ := Aside0.mk hbk_; have n1_ := Aside0.mk (Below.grown (by repeat (first | (with_reducible first | exact HB.out | apply below_alloc | apply pw_below_drewN | apply below_drew1) | exact HB.out)) hg (below_size (by repeat (first | (with_reducible first | exact HB.out | apply below_alloc | apply pw_below_drewN | apply below_drew1) | exact HB.out))) (fun _ e_ => by cases e_; exact GEBK2.out)); clear BK2 HB; have BK2 := n0_; have HB := n1_; clear n0_ n1_ hbk_ hg) | ((with_reducible refine gate_dst (N := 11) rfl ?_); refine Ar.cutall_event rfl rfl Try.underlying60 (by kernel_rfl) (g := gb2) (c := 0) rfl (by decide) ?_))
  go_ret
  exact ⟨_, _, rfl, Nat.le_refl _, Ar.row_C BK2.out HR.out (by unfold maxLen; omega) Ar.in_whole, (by repeat (first | (with_reducible first | exact HB.out | apply below_alloc | apply pw_below_drewN | apply below_drew1) | exact HB.out))⟩
set_option maxHeartbeats 8000000 in
set_option maxRecDepth 100000 in
theorem op_small1.number (o : S39) (r : List Int) (gq : Nat) (w : World) (hq : w.heap[gq]? = some (.cells #[.func (.func 46) #[] #[]] 69 (0, 0))) (h : word_Put32.f (IntKind.u32.wrap o.f4) = some r) (hr : r.length = 4) :
    Calls Try.prog 47 #[.agg (opC o), .pointer (some ⟨gq, 0, none⟩)] w fun e w' => ∃ A c, e = .returned (.slice A 4 c) ∧ 4 ≤ c ∧ Kd.C (Kd.int .u8) w' A 4 r ∧ Below w.heap.size w w' := by
  have HB := Aside0.mk (Below.refl w.heap.size w)
  have HQ := Aside0.mk hq
  have H' := Aside0.mk h
  have HR := Aside0.mk hr
  clear hq h hr
  go_enter Try.func47, Try.ntmps47
  go_wp2_with (first | ((with_reducible refine gate_dst (N := 2) rfl ?_); refine box_event ?hg (N := 2) ?hd (cs := opC o) (t := 39) ?hr ?_; (case hd => rfl); (case hg => rfl); (case hr => exact Ar.gbox_run rfl rfl); intro gb hg wx hbox hb; have n0_ := Aside0.mk (below_step (by repeat (first | (with_reducible first | exact HB.out | apply below_alloc | apply pw_below_drewN | apply below_drew1) | exact HB.out)) hb); have n1_ := Aside0.mk (blk_below (g := gq) (o := .cells #[.func (.func 46) #[] #[]] 69 (0, 0)) (by (with_reducible repeat (first | refine blk_drewN ?_ _ | refine blk_drew ?_ | refine blk_alloc ?_ _)); exact HQ.out) hb); have n2_ := Aside0.mk (hbox); have n3_ := Aside0.mk ((by rw [hg]; exact below_size (by repeat (first | (with_reducible first | exact HB.out | apply below_alloc | apply pw_below_drewN | apply below_drew1) | exact HB.out)) : w.heap.size ≤ gb)); clear HB HQ; have HB := n0_; have HQ := n1_; have BK := n2_; have GEBK := n3_; clear n0_ n1_ n2_ n3_; clear hb hbox hg) | ((with_reducible refine gate_dst (N := 5) rfl ?_); refine Ar.cload_event rfl (T := 69) rfl Try.underlying69 rfl (A := ⟨gq, 0, none⟩) rfl (v := .func (.func 46) #[] #[]) (Ar.blk_at (by (with_reducible repeat (first | refine blk_drewN ?_ _ | refine blk_drew ?_ | refine blk_alloc ?_ _)); exact HQ.out) rfl) ?_))
  refine (op_number1.calls gb _).mono ?_
  rintro e wy ⟨rfl, rfl⟩
  dsimp only
  go_wp2_with (first | ((with_reducible refine gate_dst (N := 8) rfl ?_); refine Ar.cload_event rfl (T := 3) rfl Try.underlying3 rfl (A := ⟨gb, 35, none⟩) rfl (v := .int .i64 o.f4) (Ar.blk_at (by (with_reducible repeat (first | refine blk_drewN ?_ _ | refine blk_drew ?_ | refine blk_alloc ?_ _)); exact BK.out) (opC_35 o)) ?_) | ((with_reducible refine gate_callee (f := 48) rfl ?_); refine goesL_ (some 10) rfl rfl Try.func48 (by kernel_rfl) rfl #[.int .u32 (IntKind.u32.wrap o.f4)] rfl (by (try simp only [List.map_toArray, List.map_cons, List.map_nil]); first | done | rfl) ?_; refine (word_Put32.calls (IntKind.u32.wrap o.f4) r _ H'.out).mono ?_; rintro e wx ⟨rfl, hb⟩; refine ⟨_, rfl, ?_⟩; have n0_ := Aside0.mk (below_step (by repeat (first | (with_reducible first | exact HB.out | apply below_alloc | apply pw_below_drewN | apply below_drew1) | exact HB.out)) hb); clear HB; have HB := n0_; clear n0_; clear hb) | ((with_reducible refine gate_dst (N := 4) rfl ?_); refine box_event ?hg (N := 4) ?hd (cs := Ar.cells .u8 4 (List.replicate 4 0)) (t := 60) ?hr ?_; (case hd => rfl); (case hg => rfl); (case hr => exact Ar.alloc_run rfl (by kernel_rfl)); intro gb2 hg wx hbox hb; have n0_ := Aside0.mk (below_step (by repeat (first | (with_reducible first | exact HB.out | apply below_alloc | apply pw_below_drewN | apply below_drew1) | exact HB.out)) hb); have n1_ := Aside0.mk (hbox); have n2_ := Aside0.mk ((by rw [hg]; exact below_size (by repeat (first | (with_reducible first | exact HB.out | apply below_alloc | apply pw_below_drewN | apply below_drew1) | exact HB.out)) : w.heap.size ≤ gb2)); clear HB; have HB := n0_; have BK2 := n1_; have GEBK2 := n2_; clear n0_ n1_ n2_; clear hb hbox hg) | ((with_reducible refine gate_store (t := 60) (p := 4) rfl ?_); refine Ar.store_all_event rfl rfl rfl Try.underlying60 (by kernel_rfl) (g := gb2) rfl (z := r) (by first | rfl | (go_simp; done) | (go_simp; rfl)) (by (with_reducible repeat (first | refine blk_drewN ?_ _ | refine blk_drew ?_ | refine blk_alloc ?_ _)); exact BK2.out) ?_; intro wz hbk_ hg; have n0_ := Aside0.mk hbk_; have n1_ := Aside0.mk (Below.grown (by repeat (first | (with_reducible first | exact HB.out | apply below_alloc | apply pw_below_drewN | apply below_drew1) | exact HB.out)) hg (below_size (by repeat (first | (with_reducible first | exact HB.out | apply below_alloc | apply pw_below_drewN | apply below_drew1) | exact HB.out))) (fun _ e_ => by cases e_; exact GEBK2.out)); clear BK2 HB; have BK2 := n0_; have HB := n1_; clear n0_ n1_ hbk_ hg) | ((with_reducible refine gate_dst (N := 11) rfl ?_); refine Ar.cutall_event rfl rfl Try.underlying60 (by kernel_rfl) (g := gb2) (c := 0) rfl (by decide) ?_))
  go_ret
  exact ⟨_, _, rfl, Nat.le_refl _, Ar.row_C BK2.out HR.out (by unfold maxLen; omega) Ar.in_whole, (by repeat (first | (with_reducible first | exact HB.out | apply below_alloc | apply pw_below_drewN | apply below_drew1) | exact HB.out))⟩
set_option maxHeartbeats 8000000 in
set_option maxRecDepth 100000 in
theorem op_hash1.calls (o : S39) (r : List Int) (w : World) (h : slices_Clone_byte_byte.f o.f3 = some r) (hl : o.f3.length = 32) :
    Calls Try.prog 37 #[.agg (opC o)] w fun e w' => ∃ A c, e = .returned (.slice A 32 c) ∧ 32 ≤ c ∧ Kd.C (Kd.int .u8) w' A 32 r ∧ Below w.heap.size w w' := by
  have HB := Aside0.mk (Below.refl w.heap.size w)
  have H' := Aside0.mk h
  have HL := Aside0.mk hl
  have HR : Aside0 (r.length = 32) := ⟨by
    have e := h
    unfold slices_Clone_byte_byte.f at e
    simp only [Option.bind_some, List.length_nil, Nat.zero_add, List.nil_append] at e
    rw [if_pos (by omega)] at e
    rw [← Option.some.inj e]; exact hl⟩
  clear h hl
  go_enter Try.func37, Try.ntmps37
  go_wp2_with (first | ((with_reducible refine gate_dst (N := 1) rfl ?_); refine box_event ?hg (N := 1) ?hd (cs := opC o) (t := 39) ?hr ?_; (case hd => rfl); (case hg => rfl); (case hr => exact Ar.gbox_run rfl rfl); intro gb hg wx hbox hb; have n0_ := Aside0.mk (below_step (by repeat (first | (with_reducible first | exact HB.out | apply below_alloc | apply pw_below_drewN | apply below_drew1) | exact HB.out)) hb); have n1_ := Aside0.mk (hbox); have n2_ := Aside0.mk ((by rw [hg]; exact below_size (by repeat (first | (with_reducible first | exact HB.out | apply below_alloc | apply pw_below_drewN | apply below_drew1) | exact HB.out)) : w.heap.size ≤ gb)); clear HB; have HB := n0_; have BK := n1_; have GEBK := n2_; clear n0_ n1_ n2_; clear hb hbox hg) | ((with_reducible refine gate_dst (N := 4) rfl ?_); refine Ar.cutall_event rfl rfl Try.underlying37 (by kernel_rfl) (g := gb) (c := 3) rfl (by decide) ?_))
  have HS := Aside0.mk (show Kd.C (Kd.int .u8) _ (some ⟨gb, 3, none⟩) o.f3.length o.f3 by rw [HL.out]; exact Ar.row_C (by (with_reducible repeat (first | refine blk_drewN ?_ _ | refine blk_drew ?_ | refine blk_alloc ?_ _)); exact BK.out) HL.out (by unfold maxLen; omega) (opC_h o))
  rw [show (Value.slice (some ⟨gb, 3, none⟩) 32 32) = .slice (some ⟨gb, 3, none⟩) o.f3.length 32 by rw [HL.out]]
  refine (slices_Clone_byte_byte.calls (some ⟨gb, 3, none⟩) 32 o.f3 r _ HS.out (by rw [HL.out]; exact Nat.le_refl _) H'.out).mono ?_
  rintro e wy ⟨v1, rfl, ho, hb⟩
  have n0_ := Aside0.mk (below_step (by repeat (first | (with_reducible first | exact HB.out | apply below_alloc | apply pw_below_drewN | apply below_drew1) | exact HB.out)) hb)
  have n1_ := Aside0.mk (ho)
  clear HB
  have HB := n0_
  have HO := n1_
  clear n0_ n1_
  clear hb
  dsimp only
  go_wp2
  go_ret
  obtain ⟨A_, c_, e_⟩ := Kd.R_slice HO.out
  subst e_
  obtain ⟨h1_, h2_, h3_⟩ := Kd.R_reads' HO.out
  rw [HR.out] at h2_ h3_ ⊢
  exact ⟨A_, c_, rfl, h2_, h3_, (by repeat (first | (with_reducible first | exact HB.out | apply below_alloc | apply pw_below_drewN | apply below_drew1) | exact HB.out))⟩
set_option maxHeartbeats 8000000 in
set_option maxRecDepth 100000 in
theorem op_amount1.calls (k : Nat) (o : S39) (r : List Int) (w : World) (h : word_Put64.f k o.f2 = some r) (hr : r.length = 8) :
    Calls Try.prog 40 #[.agg (opC o)] w fun e w' => ∃ A c, e = .returned (.slice A 8 c) ∧ 8 ≤ c ∧ Kd.C (Kd.int .u8) w' A 8 r ∧ Below w.heap.size w w' := by
  have HB := Aside0.mk (Below.refl w.heap.size w)
  have H' := Aside0.mk h
  have HR := Aside0.mk hr
  clear h hr
  go_enter Try.func40, Try.ntmps40
  go_wp2_with (first | ((with_reducible refine gate_dst (N := 1) rfl ?_); refine box_event ?hg (N := 1) ?hd (cs := opC o) (t := 39) ?hr ?_; (case hd => rfl); (case hg => rfl); (case hr => exact Ar.gbox_run rfl rfl); intro gb hg wx hbox hb; have n0_ := Aside0.mk (below_step (by repeat (first | (with_reducible first | exact HB.out | apply below_alloc | apply pw_below_drewN | apply below_drew1) | exact HB.out)) hb); have n1_ := Aside0.mk (hbox); have n2_ := Aside0.mk ((by rw [hg]; exact below_size (by repeat (first | (with_reducible first | exact HB.out | apply below_alloc | apply pw_below_drewN | apply below_drew1) | exact HB.out)) : w.heap.size ≤ gb)); clear HB; have HB := n0_; have BK := n1_; have GEBK := n2_; clear n0_ n1_ n2_; clear hb hbox hg) | ((with_reducible refine gate_dst (N := 5) rfl ?_); refine Ar.cload_event rfl (T := 35) rfl Try.underlying35 rfl (A := ⟨gb, 2, none⟩) rfl (v := .int .u64 o.f2) (Ar.blk_at (by (with_reducible repeat (first | refine blk_drewN ?_ _ | refine blk_drew ?_ | refine blk_alloc ?_ _)); exact BK.out) (opC_2 o)) ?_) | ((with_reducible refine gate_callee (f := 41) rfl ?_); refine goesL_ (some 6) rfl rfl Try.func41 (by kernel_rfl) rfl #[.int .u64 o.f2] rfl (by (try simp only [List.map_toArray, List.map_cons, List.map_nil]); first | done | rfl) ?_; refine (word_Put64.calls k o.f2 r _ H'.out).mono ?_; rintro e wx ⟨rfl, hb⟩; refine ⟨_, rfl, ?_⟩; have n0_ := Aside0.mk (below_step (by repeat (first | (with_reducible first | exact HB.out | apply below_alloc | apply pw_below_drewN | apply below_drew1) | exact HB.out)) hb); clear HB; have HB := n0_; clear n0_; clear hb) | ((with_reducible refine gate_dst (N := 3) rfl ?_); refine box_event ?hg (N := 3) ?hd (cs := Ar.cells .u8 8 (List.replicate 8 0)) (t := 62) ?hr ?_; (case hd => rfl); (case hg => rfl); (case hr => exact Ar.alloc_run rfl (by kernel_rfl)); intro gb2 hg wx hbox hb; have n0_ := Aside0.mk (below_step (by repeat (first | (with_reducible first | exact HB.out | apply below_alloc | apply pw_below_drewN | apply below_drew1) | exact HB.out)) hb); have n1_ := Aside0.mk (hbox); have n2_ := Aside0.mk ((by rw [hg]; exact below_size (by repeat (first | (with_reducible first | exact HB.out | apply below_alloc | apply pw_below_drewN | apply below_drew1) | exact HB.out)) : w.heap.size ≤ gb2)); clear HB; have HB := n0_; have BK2 := n1_; have GEBK2 := n2_; clear n0_ n1_ n2_; clear hb hbox hg) | ((with_reducible refine gate_store (t := 62) (p := 3) rfl ?_); refine Ar.store_all_event rfl rfl rfl Try.underlying62 (by kernel_rfl) (g := gb2) rfl (z := r) (by first | rfl | (go_simp; done) | (go_simp; rfl)) (by (with_reducible repeat (first | refine blk_drewN ?_ _ | refine blk_drew ?_ | refine blk_alloc ?_ _)); exact BK2.out) ?_; intro wz hbk_ hg; have n0_ := Aside0.mk hbk_; have n1_ := Aside0.mk (Below.grown (by repeat (first | (with_reducible first | exact HB.out | apply below_alloc | apply pw_below_drewN | apply below_drew1) | exact HB.out)) hg (below_size (by repeat (first | (with_reducible first | exact HB.out | apply below_alloc | apply pw_below_drewN | apply below_drew1) | exact HB.out))) (fun _ e_ => by cases e_; exact GEBK2.out)); clear BK2 HB; have BK2 := n0_; have HB := n1_; clear n0_ n1_ hbk_ hg) | ((with_reducible refine gate_dst (N := 7) rfl ?_); refine Ar.cutall_event rfl rfl Try.underlying62 (by kernel_rfl) (g := gb2) (c := 0) rfl (by decide) ?_))
  go_ret
  exact ⟨_, _, rfl, Nat.le_refl _, Ar.row_C BK2.out HR.out (by unfold maxLen; omega) Ar.in_whole, (by repeat (first | (with_reducible first | exact HB.out | apply below_alloc | apply pw_below_drewN | apply below_drew1) | exact HB.out))⟩
set_option maxHeartbeats 8000000 in
set_option maxRecDepth 100000 in
theorem op_hash2.calls (o : S39) (b : List Int) (A : Option Addr) (n c g : Nat) (w : World) (ho : w.heap[g]? = some (.cells (opC o) 39 (0, 0))) (hs : Kd.C (Kd.int .u8) w A 32 b) (hl : b.length = 32) :
    Calls Try.prog 39 #[.pointer (some ⟨g, 0, none⟩), .slice A 32 c] w fun e w' => e = .returned (.tuple #[]) ∧ ∃ w1, Below w.heap.size w w1 ∧ w1.grownBy w' (some g) ∧ w'.heap[g]? = some (.cells (opC { o with f3 := b }) 39 (0, 0)) := by
  have HB := Aside0.mk (Below.refl w.heap.size w)
  have OB := Aside0.mk ho
  obtain ⟨ad, rfl, HCe⟩ := row_at hs hl (by decide)
  have HC := Aside0.mk HCe
  clear ho hs HCe
  go_enter Try.func39, Try.ntmps39
  go_wp2_with (first | ((with_reducible refine gate_dst (N := 6) rfl ?_); refine Ar.ptr_event rfl (D := 6) rfl rfl Try.underlying37 (A := ad) (len := 32) (cap := c) rfl (by omega) ?_) | ((with_reducible refine gate_dst (N := 7) rfl ?_); refine Kd.event_run rfl (Ar.load_at_run rfl Try.underlying37 (by kernel_rfl) (A := ad) rfl (k := .u8) (l := b) HC.out) ?_) | ((with_reducible refine gate_store (t := 37) (p := 9) rfl ?_); refine Ar.pstore_event rfl rfl rfl (D := Ar.cells .u8 32 b) (by rw [Ar.cells_size]; kernel_rfl) (g := g) (c := 3) rfl (by first | rfl | (go_simp; done) | (go_simp; rfl)) (A := #[.int .i64 o.f0, .int .i64 o.f1, .int .u64 o.f2]) (Z := Ar.cells .u8 32 o.f3) (B := #[.int .i64 o.f4]) OB.out rfl (by simp [Ar.cells_size]) (Ar.cells_one _ _ _) ?_; intro wz hbk_ hg; have NB := Aside0.mk hbk_; have NG := Aside0.mk hg; clear hbk_ hg))
  exact Ar.end0 rfl rfl ⟨rfl, _, HB.out, NG.out, NB.out⟩
set_option maxHeartbeats 8000000 in
set_option maxRecDepth 100000 in
theorem op_amount2.calls (k : Nat) (o : S39) (b : List Int) (A : Option Addr) (c g : Nat) (z : Int) (w : World) (ho : w.heap[g]? = some (.cells (opC o) 39 (0, 0))) (hs : Kd.C (Kd.int .u8) w A 8 b) (hl : b.length = 8) (h : word_Get64.f k b = some z) :
    Calls Try.prog 42 #[.pointer (some ⟨g, 0, none⟩), .slice A 8 c] w fun e w' => e = .returned (.tuple #[]) ∧ ∃ w1, Below w.heap.size w w1 ∧ w1.grownBy w' (some g) ∧ w'.heap[g]? = some (.cells (opC { o with f2 := z }) 39 (0, 0)) := by
  have HB := Aside0.mk (Below.refl w.heap.size w)
  have OB := Aside0.mk ho
  have H' := Aside0.mk h
  obtain ⟨ad, rfl, HCe⟩ := row_at hs hl (by decide)
  have HC := Aside0.mk HCe
  clear ho hs HCe h
  go_enter Try.func42, Try.ntmps42
  go_wp2_with (first | ((with_reducible refine gate_dst (N := 6) rfl ?_); refine Ar.ptr_event rfl (D := 6) rfl rfl Try.underlying62 (A := ad) (len := 8) (cap := c) rfl (by omega) ?_) | ((with_reducible refine gate_dst (N := 7) rfl ?_); refine Kd.event_run rfl (Ar.load_at_run rfl Try.underlying62 (by kernel_rfl) (A := ad) rfl (k := .u8) (l := b) HC.out) ?_) | ((with_reducible refine gate_callee (f := 43) rfl ?_); refine goesL_ (some 8) rfl rfl Try.func43 (by kernel_rfl) rfl #[.agg (Ar.cells .u8 8 b)] rfl (by (try simp only [List.map_toArray, List.map_cons, List.map_nil]); first | done | rfl) ?_; refine (word_Get64.calls k b z _ H'.out).mono ?_; rintro e wx ⟨rfl, hb⟩; refine ⟨_, rfl, ?_⟩; have n0_ := Aside0.mk (below_step (by repeat (first | (with_reducible first | exact HB.out | apply below_alloc | apply pw_below_drewN | apply below_drew1) | exact HB.out)) hb); have n1_ := Aside0.mk (blk_below (g := g) (o := .cells (opC o) 39 (0, 0)) (by (with_reducible repeat (first | refine blk_drewN ?_ _ | refine blk_drew ?_ | refine blk_alloc ?_ _)); exact OB.out) hb); clear HB OB; have HB := n0_; have OB := n1_; clear n0_ n1_; clear hb) | ((with_reducible refine gate_store (t := 35) (p := 10) rfl ?_); refine Ar.cstore_event rfl rfl rfl (by kernel_rfl) (g := g) (c := 2) rfl (by first | rfl | (go_simp; done) | (go_simp; rfl)) OB.out (opC_2 o) ?_; intro wz hbk_ hg; have NB := Aside0.mk hbk_; have NG := Aside0.mk hg; clear hbk_ hg))
  exact Ar.end0 rfl rfl ⟨rfl, _, HB.out, NG.out, by rw [← opC_set2]; exact NB.out⟩
set_option maxHeartbeats 8000000 in
set_option maxRecDepth 100000 in
theorem op_small2.who (k : Nat) (o : S39) (b : List Int) (A : Option Addr) (c g gq : Nat) (z : Int) (w : World) (hq : w.heap[gq]? = some (.cells #[.func (.func 45) #[] #[]] 69 (0, 0))) (ho : w.heap[g]? = some (.cells (opC o) 39 (0, 0))) (hs : Kd.C (Kd.int .u8) w A 4 b) (hl : b.length = 4) (h : word_Get32.f k b = some z) (hz0 : 0 ≤ z) (hz1 : z < 4294967296) :
    Calls Try.prog 49 #[.pointer (some ⟨g, 0, none⟩), .slice A 4 c, .pointer (some ⟨gq, 0, none⟩)] w fun e w' => e = .returned (.tuple #[]) ∧ ∃ w1, Below w.heap.size w w1 ∧ w1.grownBy w' (some g) ∧ w'.heap[g]? = some (.cells (opC { o with f1 := z }) 39 (0, 0)) := by
  have HB := Aside0.mk (Below.refl w.heap.size w)
  have HQ := Aside0.mk hq
  have OB := Aside0.mk ho
  have H' := Aside0.mk h
  have HZ := Aside0.mk (show wrap64 z = z by unfold wrap64; omega)
  obtain ⟨ad, rfl, HCe⟩ := row_at hs hl (by decide)
  have HC := Aside0.mk HCe
  clear ho hs HCe h hq
  go_enter Try.func49, Try.ntmps49
  try go_wp2
  have n0_ := Aside0.mk (below_drew1 HB.out)
  clear HB
  have HB := n0_
  clear n0_
  refine start_ (n := 10) (S := fun w' => w'.heap[gq]? = some (.cells #[.func (.func 45) #[] #[]] 69 (0, 0)) ∧ (∀ j_ : Nat, j_ < 4 → w'.cell? (ad.add j_) = some (.int .u8 (Ar.get 4 b j_))) ∧ w'.heap[g]? = some (.cells (opC o) 39 (0, 0))) (ds := [9]) #[false, false, false, false, false, false, false, false, false, false] (by kernel_rfl) rfl rfl ⟨blk_drew HQ.out, fun j_ hj_ => (HC.out j_ hj_), blk_drew OB.out⟩ (fun hHeld => ?_)
  refine pure_ (i := 1) (N := some 6) (v := ?_) (a' := ?_) #[false, true, false, false, false, false, false, false, false, false] rfl rfl (by kernel_rfl) (fun _ _ _ h => h) (Or.inl ⟨by rfl, ?_⟩) ?_ ?_
  rotate_left
  · intro w'
    go_simp
    with_reducible rfl
  rotate_left
  · simp only [Act.put, List.setIfInBounds_toArray, List.set_cons_zero, List.set_cons_succ, i64_w, i32_w]
    rfl
  refine pure_ (i := 3) (N := some 8) (v := ?_) (a' := ?_) #[false, true, false, true, false, false, false, false, false, false] rfl rfl (by kernel_rfl) (fun _ _ _ h => h) (Or.inl ⟨by rfl, ?_⟩) ?_ ?_
  rotate_left
  · intro w'
    go_simp
    with_reducible rfl
  rotate_left
  · simp only [Act.put, List.setIfInBounds_toArray, List.set_cons_zero, List.set_cons_succ, i64_w, i32_w]
    rfl
  refine pure_ (i := 4) (N := some 9) (v := ?_) (a' := ?_) #[false, true, false, true, true, false, false, false, false, false] rfl rfl (by kernel_rfl) (fun _ _ _ h => h) (Or.inl ⟨by rfl, ?_⟩) ?_ ?_
  rotate_left
  · intro w'
    refine (Ar.ptr_run rfl Try.underlying60 rfl (by omega)).trans ?_; with_reducible rfl
  rotate_left
  · simp only [Act.put, List.setIfInBounds_toArray, List.set_cons_zero, List.set_cons_succ, i64_w, i32_w]
    rfl
  refine take_ (i := 0) (N := some 5) (v := ?_) (a' := ?_) #[true, true, false, true, true, false, false, false, false, false] rfl rfl (by kernel_rfl) (fun _ _ _ h => h) (Or.inl ⟨by rfl, ?_⟩) hHeld ?_ ?_
  rotate_left
  · rintro w' ⟨s0, s1, s2⟩
    refine (Ar.cload_run rfl Try.underlying69 rfl rfl (Ar.blk_at s0 rfl)).trans ?_; with_reducible rfl
  rotate_left
  · simp only [Act.put, List.setIfInBounds_toArray, List.set_cons_zero, List.set_cons_succ, i64_w, i32_w]
    rfl
  refine take_ (i := 5) (N := some 10) (v := ?_) (a' := ?_) #[true, true, false, true, true, true, false, false, false, false] rfl rfl (by kernel_rfl) (fun _ _ _ h => h) (Or.inl ⟨by rfl, ?_⟩) hHeld ?_ ?_
  rotate_left
  · rintro w' ⟨s0, s1, s2⟩
    refine (Ar.load_at_run rfl Try.underlying60 (by kernel_rfl) rfl s1).trans ?_; with_reducible rfl
  rotate_left
  · simp only [Act.put, List.setIfInBounds_toArray, List.set_cons_zero, List.set_cons_succ, i64_w, i32_w]
    rfl
  refine one_ (i := 2) (N := some 7) #[true, true, true, true, true, true, false, false, false, false] rfl rfl (by kernel_rfl) (by decide) (fun K hK => ?_)
  refine Ar.goesV_ Try.func45 (by kernel_rfl) rfl #[.pointer (some ⟨g, 0, none⟩)] (by rfl) rfl rfl rfl (by first | rfl | (simp only [List.map_toArray, List.map_cons, List.map_nil]; rfl)) ?_
  refine (op_who1.calls g _).mono ?_
  rintro e wy ⟨rfl, rfl⟩
  refine ⟨_, rfl, ?_⟩
  refine hK.out _ _ ⟨hHeld.1, hHeld.2.1, hHeld.2.2⟩ (fun hHeld => ?_)
  clear hK K
  refine norm_ (a' := ?_) ?_ ?_
  rotate_left
  · show Act.put _ (some 7) _ = _
    simp only [Act.put, List.setIfInBounds_toArray, List.set_cons_zero, List.set_cons_succ, i64_w, i32_w]
    rfl
  refine one_ (i := 6) (N := some 11) #[true, true, true, true, true, true, true, false, false, false] rfl rfl (by kernel_rfl) (by decide) (fun K hK => ?_)
  refine goes_ Try.func50 (by kernel_rfl) rfl #[.agg (Ar.cells .u8 4 b)] (by rfl) rfl rfl (by simp only [List.map_toArray, List.map_cons, List.map_nil]; rfl) ?_
  with_reducible refine (word_Get32.calls k b z _ H'.out).mono ?_
  rintro e wy ⟨rfl, hb⟩
  refine ⟨_, rfl, ?_⟩
  have n0_ := Aside0.mk (below_step (by repeat (first | (with_reducible first | exact HB.out | apply below_alloc | apply pw_below_drewN | apply below_drew1) | exact HB.out)) hb)
  clear HB
  have HB := n0_
  clear n0_
  refine hK.out _ _ ⟨blk_below (g := gq) (o := .cells #[.func (.func 45) #[] #[]] 69 (0, 0)) hHeld.1 hb, fun j_ hj_ => (hb.cell (World.block_lt_of_cell? _ _ (hHeld.2.1 j_ hj_))).trans (hHeld.2.1 j_ hj_), blk_below (g := g) (o := .cells (opC o) 39 (0, 0)) hHeld.2.2 hb⟩ (fun hHeld => ?_)
  clear hK K
  refine norm_ (a' := ?_) ?_ ?_
  rotate_left
  · show Act.put _ (some 11) _ = _
    simp only [Act.put, List.setIfInBounds_toArray, List.set_cons_zero, List.set_cons_succ, i64_w, i32_w]
    rfl
  refine pure_ (i := 7) (N := some 12) (v := ?_) (a' := ?_) #[true, true, true, true, true, true, true, true, false, false] rfl rfl (by kernel_rfl) (fun _ _ _ h => h) (Or.inl ⟨by rfl, ?_⟩) ?_ ?_
  rotate_left
  · intro w'
    go_simp
    with_reducible rfl
  rotate_left
  · simp only [Act.put, List.setIfInBounds_toArray, List.set_cons_zero, List.set_cons_succ, i64_w, i32_w]
    rfl
  refine pure_ (i := 8) (N := some 13) (v := ?_) (a' := ?_) #[true, true, true, true, true, true, true, true, true, false] rfl rfl (by kernel_rfl) (fun _ _ _ h => h) (Or.inl ⟨by rfl, ?_⟩) ?_ ?_
  rotate_left
  · intro w'
    go_simp
    with_reducible rfl
  rotate_left
  · simp only [Act.put, List.setIfInBounds_toArray, List.set_cons_zero, List.set_cons_succ, i64_w, i32_w]
    rfl
  refine last_ (i := 9) (N := none) #[true, true, true, true, true, true, true, true, true, true] rfl rfl (by kernel_rfl) (by decide) (fun K hK => ?_)
  refine skip_ (by rfl) rfl (Ar.cstore_run rfl (by kernel_rfl) (g := g) (c := 1) rfl (by first | rfl | (go_simp; done) | (go_simp; rfl)) hHeld.2.2 (opC_1 o)) ?_
  obtain ⟨NB0, NG0⟩ := Ar.cstore_after (k := .i64) (c := 1) (z := z) hHeld.2.2
  have NB := Aside0.mk NB0
  have NG := Aside0.mk NG0
  clear NB0 NG0
  refine hK.out _ _ ?_
  clear hK K
  refine done_ (by kernel_rfl) ?_
  rw [HZ.out]
  exact Ar.end0 rfl rfl ⟨rfl, _, HB.out, NG.out, by rw [← opC_set1]; exact NB.out⟩
set_option maxHeartbeats 8000000 in
set_option maxRecDepth 100000 in
theorem op_small2.number (k : Nat) (o : S39) (b : List Int) (A : Option Addr) (c g gq : Nat) (z : Int) (w : World) (hq : w.heap[gq]? = some (.cells #[.func (.func 46) #[] #[]] 69 (0, 0))) (ho : w.heap[g]? = some (.cells (opC o) 39 (0, 0))) (hs : Kd.C (Kd.int .u8) w A 4 b) (hl : b.length = 4) (h : word_Get32.f k b = some z) (hz0 : 0 ≤ z) (hz1 : z < 4294967296) :
    Calls Try.prog 49 #[.pointer (some ⟨g, 0, none⟩), .slice A 4 c, .pointer (some ⟨gq, 0, none⟩)] w fun e w' => e = .returned (.tuple #[]) ∧ ∃ w1, Below w.heap.size w w1 ∧ w1.grownBy w' (some g) ∧ w'.heap[g]? = some (.cells (opC { o with f4 := z }) 39 (0, 0)) := by
  have HB := Aside0.mk (Below.refl w.heap.size w)
  have HQ := Aside0.mk hq
  have OB := Aside0.mk ho
  have H' := Aside0.mk h
  have HZ := Aside0.mk (show wrap64 z = z by unfold wrap64; omega)
  obtain ⟨ad, rfl, HCe⟩ := row_at hs hl (by decide)
  have HC := Aside0.mk HCe
  clear ho hs HCe h hq
  go_enter Try.func49, Try.ntmps49
  try go_wp2
  have n0_ := Aside0.mk (below_drew1 HB.out)
  clear HB
  have HB := n0_
  clear n0_
  refine start_ (n := 10) (S := fun w' => w'.heap[gq]? = some (.cells #[.func (.func 46) #[] #[]] 69 (0, 0)) ∧ (∀ j_ : Nat, j_ < 4 → w'.cell? (ad.add j_) = some (.int .u8 (Ar.get 4 b j_))) ∧ w'.heap[g]? = some (.cells (opC o) 39 (0, 0))) (ds := [9]) #[false, false, false, false, false, false, false, false, false, false] (by kernel_rfl) rfl rfl ⟨blk_drew HQ.out, fun j_ hj_ => (HC.out j_ hj_), blk_drew OB.out⟩ (fun hHeld => ?_)
  refine pure_ (i := 1) (N := some 6) (v := ?_) (a' := ?_) #[false, true, false, false, false, false, false, false, false, false] rfl rfl (by kernel_rfl) (fun _ _ _ h => h) (Or.inl ⟨by rfl, ?_⟩) ?_ ?_
  rotate_left
  · intro w'
    go_simp
    with_reducible rfl
  rotate_left
  · simp only [Act.put, List.setIfInBounds_toArray, List.set_cons_zero, List.set_cons_succ, i64_w, i32_w]
    rfl
  refine pure_ (i := 3) (N := some 8) (v := ?_) (a' := ?_) #[false, true, false, true, false, false, false, false, false, false] rfl rfl (by kernel_rfl) (fun _ _ _ h => h) (Or.inl ⟨by rfl, ?_⟩) ?_ ?_
  rotate_left
  · intro w'
    go_simp
    with_reducible rfl
  rotate_left
  · simp only [Act.put, List.setIfInBounds_toArray, List.set_cons_zero, List.set_cons_succ, i64_w, i32_w]
    rfl
  refine pure_ (i := 4) (N := some 9) (v := ?_) (a' := ?_) #[false, true, false, true, true, false, false, false, false, false] rfl rfl (by kernel_rfl) (fun _ _ _ h => h) (Or.inl ⟨by rfl, ?_⟩) ?_ ?_
  rotate_left
  · intro w'
    refine (Ar.ptr_run rfl Try.underlying60 rfl (by omega)).trans ?_; with_reducible rfl
  rotate_left
  · simp only [Act.put, List.setIfInBounds_toArray, List.set_cons_zero, List.set_cons_succ, i64_w, i32_w]
    rfl
  refine take_ (i := 0) (N := some 5) (v := ?_) (a' := ?_) #[true, true, false, true, true, false, false, false, false, false] rfl rfl (by kernel_rfl) (fun _ _ _ h => h) (Or.inl ⟨by rfl, ?_⟩) hHeld ?_ ?_
  rotate_left
  · rintro w' ⟨s0, s1, s2⟩
    refine (Ar.cload_run rfl Try.underlying69 rfl rfl (Ar.blk_at s0 rfl)).trans ?_; with_reducible rfl
  rotate_left
  · simp only [Act.put, List.setIfInBounds_toArray, List.set_cons_zero, List.set_cons_succ, i64_w, i32_w]
    rfl
  refine take_ (i := 5) (N := some 10) (v := ?_) (a' := ?_) #[true, true, false, true, true, true, false, false, false, false] rfl rfl (by kernel_rfl) (fun _ _ _ h => h) (Or.inl ⟨by rfl, ?_⟩) hHeld ?_ ?_
  rotate_left
  · rintro w' ⟨s0, s1, s2⟩
    refine (Ar.load_at_run rfl Try.underlying60 (by kernel_rfl) rfl s1).trans ?_; with_reducible rfl
  rotate_left
  · simp only [Act.put, List.setIfInBounds_toArray, List.set_cons_zero, List.set_cons_succ, i64_w, i32_w]
    rfl
  refine one_ (i := 2) (N := some 7) #[true, true, true, true, true, true, false, false, false, false] rfl rfl (by kernel_rfl) (by decide) (fun K hK => ?_)
  refine Ar.goesV_ Try.func46 (by kernel_rfl) rfl #[.pointer (some ⟨g, 0, none⟩)] (by rfl) rfl rfl rfl (by first | rfl | (simp only [List.map_toArray, List.map_cons, List.map_nil]; rfl)) ?_
  refine (op_number1.calls g _).mono ?_
  rintro e wy ⟨rfl, rfl⟩
  refine ⟨_, rfl, ?_⟩
  refine hK.out _ _ ⟨hHeld.1, hHeld.2.1, hHeld.2.2⟩ (fun hHeld => ?_)
  clear hK K
  refine norm_ (a' := ?_) ?_ ?_
  rotate_left
  · show Act.put _ (some 7) _ = _
    simp only [Act.put, List.setIfInBounds_toArray, List.set_cons_zero, List.set_cons_succ, i64_w, i32_w]
    rfl
  refine one_ (i := 6) (N := some 11) #[true, true, true, true, true, true, true, false, false, false] rfl rfl (by kernel_rfl) (by decide) (fun K hK => ?_)
  refine goes_ Try.func50 (by kernel_rfl) rfl #[.agg (Ar.cells .u8 4 b)] (by rfl) rfl rfl (by simp only [List.map_toArray, List.map_cons, List.map_nil]; rfl) ?_
  with_reducible refine (word_Get32.calls k b z _ H'.out).mono ?_
  rintro e wy ⟨rfl, hb⟩
  refine ⟨_, rfl, ?_⟩
  have n0_ := Aside0.mk (below_step (by repeat (first | (with_reducible first | exact HB.out | apply below_alloc | apply pw_below_drewN | apply below_drew1) | exact HB.out)) hb)
  clear HB
  have HB := n0_
  clear n0_
  refine hK.out _ _ ⟨blk_below (g := gq) (o := .cells #[.func (.func 46) #[] #[]] 69 (0, 0)) hHeld.1 hb, fun j_ hj_ => (hb.cell (World.block_lt_of_cell? _ _ (hHeld.2.1 j_ hj_))).trans (hHeld.2.1 j_ hj_), blk_below (g := g) (o := .cells (opC o) 39 (0, 0)) hHeld.2.2 hb⟩ (fun hHeld => ?_)
  clear hK K
  refine norm_ (a' := ?_) ?_ ?_
  rotate_left
  · show Act.put _ (some 11) _ = _
    simp only [Act.put, List.setIfInBounds_toArray, List.set_cons_zero, List.set_cons_succ, i64_w, i32_w]
    rfl
  refine pure_ (i := 7) (N := some 12) (v := ?_) (a' := ?_) #[true, true, true, true, true, true, true, true, false, false] rfl rfl (by kernel_rfl) (fun _ _ _ h => h) (Or.inl ⟨by rfl, ?_⟩) ?_ ?_
  rotate_left
  · intro w'
    go_simp
    with_reducible rfl
  rotate_left
  · simp only [Act.put, List.setIfInBounds_toArray, List.set_cons_zero, List.set_cons_succ, i64_w, i32_w]
    rfl
  refine pure_ (i := 8) (N := some 13) (v := ?_) (a' := ?_) #[true, true, true, true, true, true, true, true, true, false] rfl rfl (by kernel_rfl) (fun _ _ _ h => h) (Or.inl ⟨by rfl, ?_⟩) ?_ ?_
  rotate_left
  · intro w'
    go_simp
    with_reducible rfl
  rotate_left
  · simp only [Act.put, List.setIfInBounds_toArray, List.set_cons_zero, List.set_cons_succ, i64_w, i32_w]
    rfl
  refine last_ (i := 9) (N := none) #[true, true, true, true, true, true, true, true, true, true] rfl rfl (by kernel_rfl) (by decide) (fun K hK => ?_)
  refine skip_ (by rfl) rfl (Ar.cstore_run rfl (by kernel_rfl) (g := g) (c := 35) rfl (by first | rfl | (go_simp; done) | (go_simp; rfl)) hHeld.2.2 (opC_35 o)) ?_
  obtain ⟨NB0, NG0⟩ := Ar.cstore_after (k := .i64) (c := 35) (z := z) hHeld.2.2
  have NB := Aside0.mk NB0
  have NG := Aside0.mk NG0
  clear NB0 NG0
  refine hK.out _ _ ?_
  clear hK K
  refine done_ (by kernel_rfl) ?_
  rw [HZ.out]
  exact Ar.end0 rfl rfl ⟨rfl, _, HB.out, NG.out, by rw [← opC_set35]; exact NB.out⟩

/-- The fields that an operation may have: a hash, an amount, a validator, a number. -/
inductive Fld where
  | h | a | w | n
def Fld.size : Fld → Nat
  | .h => 32
  | .a => 8
  | .w => 4
  | .n => 4
/-- A field's two functions; c is the block that both hold (of a validator's, and of a number's). -/
def Fld.put (c : Nat) : Fld → Value
  | .h => .func (.func 37) #[] #[]
  | .a => .func (.func 40) #[] #[]
  | .w => .func (.func 47) #[] #[.pointer (some ⟨c, 0, none⟩)]
  | .n => .func (.func 47) #[] #[.pointer (some ⟨c, 0, none⟩)]
def Fld.take (c : Nat) : Fld → Value
  | .h => .func (.func 39) #[] #[]
  | .a => .func (.func 42) #[] #[]
  | .w => .func (.func 49) #[] #[.pointer (some ⟨c, 0, none⟩)]
  | .n => .func (.func 49) #[] #[.pointer (some ⟨c, 0, none⟩)]
def Fld.held (W : World) (c : Nat) : Fld → Prop
  | .h => True
  | .a => True
  | .w => W.heap[c]? = some (.cells #[.func (.func 45) #[] #[]] 69 (0, 0))
  | .n => W.heap[c]? = some (.cells #[.func (.func 46) #[] #[]] 69 (0, 0))
def FV (W : World) (x : Fld) (cs : Array Value) : Prop := ∃ c, cs = #[.int .i64 x.size, x.put c, x.take c] ∧ x.held W c
theorem FV.below {w w1 : World} {x : Fld} {cs : Array Value} (hb : Below w.heap.size w w1) (h : FV w x cs) : FV w1 x cs := by
  obtain ⟨c, h1, h2⟩ := h
  refine ⟨c, h1, ?_⟩
  cases x with
  | h => trivial
  | a => trivial
  | w => exact blk_below h2 hb
  | n => exact blk_below h2 hb
theorem FV.grown {w w1 : World} {x : Fld} {cs C : Array Value} {g : Nat} (hb : w.heap[g]? = some (.cells C 55 (0, 0))) (hg : w.grownBy w1 (some g)) (h : FV w x cs) : FV w1 x cs := by
  obtain ⟨c, h1, h2⟩ := h
  refine ⟨c, h1, ?_⟩
  cases x with
  | h => trivial
  | a => trivial
  | w => exact blk_grown h2 hg (fun e_ => blk_ne h2 hb (by decide) (Option.some.inj e_))
  | n => exact blk_grown h2 hg (fun e_ => blk_ne h2 hb (by decide) (Option.some.inj e_))
theorem FV.size {w : World} {x : Fld} {cs : Array Value} (h : FV w x cs) : cs.size = 3 := by
  obtain ⟨c, rfl, _⟩ := h
  rfl
theorem FV.one {w : World} {x : Fld} {cs : Array Value} (h : FV w x cs) : cs.all (·.oneCell') = true := by
  obtain ⟨c, rfl, _⟩ := h
  cases x <;> simp [Fld.put, Fld.take, Value.oneCell']
/-- The fields of a kind; false: it is none. -/
def flds (k : Int) : List Fld × Bool :=
  if k = 1 then ([.h, .a], true) else if k = 2 then ([.w, .a], true) else if k = 3 then ([.w, .a], true) else if k = 4 then ([.w, .h], true) else if k = 5 then ([.w, .h], true) else if k = 6 then ([], true) else if k = 11 then ([], true)
  else if k = 7 then ([.n], true) else if k = 8 then ([.n], true) else if k = 9 then ([.n, .w], true) else if k = 10 then ([.w, .n], true) else ([], false)
theorem flds_len (k : Int) : (flds k).1.length ≤ 2 := by
  unfold flds
  repeat' split
  all_goals simp
theorem Fld.held_below {w w1 : World} {c : Nat} {x : Fld} (h : x.held w c) (hb : Below w.heap.size w w1) : x.held w1 c := by
  cases x with
  | h => trivial
  | a => trivial
  | w => exact blk_below h hb
  | n => exact blk_below h hb
/-- A row of fields. -/
def FRow (W : World) (A : Option Addr) (L : List Fld) : Prop := ∀ (j : Nat) (x : Fld), L[j]? = some x → ∃ ad cs, A = some ad ∧ FV W x cs ∧ ∀ (i : Nat) (u : Value), cs.toList[i]? = some u → W.cell? (ad.add (j * 3 + i)) = some u
theorem FRow.below {w w1 : World} {A : Option Addr} {L : List Fld} (hb : Below w.heap.size w w1) (h : FRow w A L) : FRow w1 A L := fun j x hj => by
  obtain ⟨ad, cs, h1, h2, h3⟩ := h j x hj
  exact ⟨ad, cs, h1, h2.below hb, fun i u hu => (hb.cell (World.block_lt_of_cell? _ _ (h3 i u hu))).trans (h3 i u hu)⟩
theorem FRow.grown {w w1 : World} {A : Option Addr} {L : List Fld} {C : Array Value} {g : Nat} (hb : w.heap[g]? = some (.cells C 55 (0, 0))) (hg : w.grownBy w1 (some g)) (hne : ∀ ad, A = some ad → ad.block ≠ g) (h : FRow w A L) : FRow w1 A L := fun j x hj => by
  obtain ⟨ad, cs, h1, h2, h3⟩ := h j x hj
  refine ⟨ad, cs, h1, h2.grown hb hg, fun i u hu => ?_⟩
  have hc := h3 i u hu
  have := cell_grown hg hc (by rw [add_block]; exact fun e_ => hne ad h1 (Option.some.inj e_))
  exact this
theorem FRow.nil (w : World) (A : Option Addr) : FRow w A [] := fun j x hj => by simp at hj
theorem FRow.one {w : World} {g : Nat} {x : Fld} {cs : Array Value} (h : FV w x cs) (hb : w.heap[g]? = some (.cells cs 55 (0, 0))) : FRow w (some ⟨g, 0, none⟩) [x] := fun j y hj => by
  match j, hj with
  | 0, hj =>
    obtain rfl : x = y := by simpa using hj
    refine ⟨_, cs, rfl, h, fun i u hu => ?_⟩
    rw [Ar.at2_]
    exact Ar.blk_at hb (by simpa using hu)
theorem FRow.two {w : World} {g : Nat} {x y : Fld} {cs ds : Array Value} (h : FV w x cs) (h' : FV w y ds) (hb : w.heap[g]? = some (.cells (cs ++ ds) 55 (0, 0))) : FRow w (some ⟨g, 0, none⟩) [x, y] := fun j z hj => by
  have hs := h.size
  match j, hj with
  | 0, hj =>
    obtain rfl : x = z := by simpa using hj
    refine ⟨_, cs, rfl, h, fun i u hu => ?_⟩
    rw [Ar.at2_]
    refine Ar.blk_at hb ?_
    simpa using Ar.in_first (B := ds) i u hu
  | 1, hj =>
    obtain rfl : y = z := by simpa using hj
    refine ⟨_, ds, rfl, h', fun i u hu => ?_⟩
    rw [Ar.at2_]
    refine Ar.blk_at hb ?_
    have := Ar.in_last (A := cs) hs i u hu
    simpa [Nat.add_comm, Nat.add_left_comm] using this
theorem fBuild (w : World) (s : Int) (f1 f2 : Fn) (c1 c2 : Array Value) : (Instr.build 55 #[(0, .int .i64 s), (1, .func f1 #[] c1), (2, .func f2 #[] c2)]).run Try.prog w = .ok (.agg #[.int .i64 s, .func f1 #[] c1, .func f2 #[] c2]) w := by
  refine run_build (P := Try.prog) w 55 _ _ ?_
  rw [Ar.built_struct (Z := #[.int .i64 0, .nilFunc, .nilFunc]) (pl := [(0, 1), (1, 1), (2, 1)]) _ (by kernel_rfl) Try.underlying55 (by kernel_rfl)]
  rfl
theorem fInfo : (Try.prog.info? 55).map (fun i => (i.zero, i.size, i.bytes)) = some (some (.agg #[.int .i64 0, .nilFunc, .nilFunc]), 3, 24) := by kernel_rfl
set_option maxHeartbeats 8000000 in
set_option maxRecDepth 100000 in
theorem op_hash.calls (w : World) : Calls Try.prog 33 #[] w fun e w' => ∃ cs, e = .returned (.agg cs) ∧ FV w' .h cs ∧ Below w.heap.size w w' := by
  have HB := Aside0.mk (Below.refl w.heap.size w)
  go_enter Try.func33, Try.ntmps33
  go_wp2_with (first | ((with_reducible refine gate_dst (N := 0) rfl ?_); refine box_event ?hg (N := 0) ?hd (cs := #[.int .i64 0, .nilFunc, .nilFunc]) (t := 55) ?hr ?_; (case hd => rfl); (case hg => rfl); (case hr => exact Ar.galloc_run rfl (by kernel_rfl)); intro gb hg wx hbox hb; have n0_ := Aside0.mk (below_step (by repeat (first | (with_reducible first | exact HB.out | apply below_alloc | apply pw_below_drewN | apply below_drew1) | exact HB.out)) hb); have n1_ := Aside0.mk (hbox); have n2_ := Aside0.mk ((by rw [hg]; exact below_size (by repeat (first | (with_reducible first | exact HB.out | apply below_alloc | apply pw_below_drewN | apply below_drew1) | exact HB.out)) : w.heap.size ≤ gb)); clear HB; have HB := n0_; have BK := n1_; have GEBK := n2_; clear n0_ n1_ n2_; clear hb hbox hg) | ((with_reducible refine gate_dst (N := 1) rfl ?_); refine Ar.gbuild_event rfl (T := 55) rfl (D := #[.int .i64 32, .func (.func 37) #[] #[], .func (.func 39) #[] #[]]) (by first | exact fBuild _ _ _ _ _ _ | (simp only [List.map_toArray, List.map_cons, List.map_nil]; exact fBuild _ _ _ _ _ _)) ?_) | ((with_reducible refine gate_store (t := 55) (p := 0) rfl ?_); refine Ar.gstore_event rfl rfl rfl (D := #[.int .i64 32, .func (.func 37) #[] #[], .func (.func 39) #[] #[]]) (by kernel_rfl) (g := gb) rfl (by first | rfl | (go_simp; done) | (go_simp; rfl)) (by (with_reducible repeat (first | refine blk_drewN ?_ _ | refine blk_drew ?_ | refine blk_alloc ?_ _)); exact BK.out) (by rfl) (by simp [Value.oneCell']) ?_; intro wz hbk_ hg; have n0_ := Aside0.mk hbk_; have n1_ := Aside0.mk (Below.grown (by repeat (first | (with_reducible first | exact HB.out | apply below_alloc | apply pw_below_drewN | apply below_drew1) | exact HB.out)) hg (below_size (by repeat (first | (with_reducible first | exact HB.out | apply below_alloc | apply pw_below_drewN | apply below_drew1) | exact HB.out))) (fun _ e_ => by cases e_; exact GEBK.out)); have NG := Aside0.mk hg; clear BK HB; have BK := n0_; have HB := n1_; clear n0_ n1_ hbk_ hg))
  refine bodyPost_ret (results_cell_row rfl _ _ gb 55 #[.int .i64 32, .func (.func 37) #[] #[], .func (.func 39) #[] #[]] (0, 0) _ rfl BK.out Try.underlying55 rfl (by kernel_rfl)) rfl ?_
  exact ⟨_, rfl, ⟨0, rfl, trivial⟩, HB.out⟩
set_option maxHeartbeats 8000000 in
set_option maxRecDepth 100000 in
theorem op_amount.calls (w : World) : Calls Try.prog 34 #[] w fun e w' => ∃ cs, e = .returned (.agg cs) ∧ FV w' .a cs ∧ Below w.heap.size w w' := by
  have HB := Aside0.mk (Below.refl w.heap.size w)
  go_enter Try.func34, Try.ntmps34
  go_wp2_with (first | ((with_reducible refine gate_dst (N := 0) rfl ?_); refine box_event ?hg (N := 0) ?hd (cs := #[.int .i64 0, .nilFunc, .nilFunc]) (t := 55) ?hr ?_; (case hd => rfl); (case hg => rfl); (case hr => exact Ar.galloc_run rfl (by kernel_rfl)); intro gb hg wx hbox hb; have n0_ := Aside0.mk (below_step (by repeat (first | (with_reducible first | exact HB.out | apply below_alloc | apply pw_below_drewN | apply below_drew1) | exact HB.out)) hb); have n1_ := Aside0.mk (hbox); have n2_ := Aside0.mk ((by rw [hg]; exact below_size (by repeat (first | (with_reducible first | exact HB.out | apply below_alloc | apply pw_below_drewN | apply below_drew1) | exact HB.out)) : w.heap.size ≤ gb)); clear HB; have HB := n0_; have BK := n1_; have GEBK := n2_; clear n0_ n1_ n2_; clear hb hbox hg) | ((with_reducible refine gate_dst (N := 1) rfl ?_); refine Ar.gbuild_event rfl (T := 55) rfl (D := #[.int .i64 8, .func (.func 40) #[] #[], .func (.func 42) #[] #[]]) (by first | exact fBuild _ _ _ _ _ _ | (simp only [List.map_toArray, List.map_cons, List.map_nil]; exact fBuild _ _ _ _ _ _)) ?_) | ((with_reducible refine gate_store (t := 55) (p := 0) rfl ?_); refine Ar.gstore_event rfl rfl rfl (D := #[.int .i64 8, .func (.func 40) #[] #[], .func (.func 42) #[] #[]]) (by kernel_rfl) (g := gb) rfl (by first | rfl | (go_simp; done) | (go_simp; rfl)) (by (with_reducible repeat (first | refine blk_drewN ?_ _ | refine blk_drew ?_ | refine blk_alloc ?_ _)); exact BK.out) (by rfl) (by simp [Value.oneCell']) ?_; intro wz hbk_ hg; have n0_ := Aside0.mk hbk_; have n1_ := Aside0.mk (Below.grown (by repeat (first | (with_reducible first | exact HB.out | apply below_alloc | apply pw_below_drewN | apply below_drew1) | exact HB.out)) hg (below_size (by repeat (first | (with_reducible first | exact HB.out | apply below_alloc | apply pw_below_drewN | apply below_drew1) | exact HB.out))) (fun _ e_ => by cases e_; exact GEBK.out)); have NG := Aside0.mk hg; clear BK HB; have BK := n0_; have HB := n1_; clear n0_ n1_ hbk_ hg))
  refine bodyPost_ret (results_cell_row rfl _ _ gb 55 #[.int .i64 8, .func (.func 40) #[] #[], .func (.func 42) #[] #[]] (0, 0) _ rfl BK.out Try.underlying55 rfl (by kernel_rfl)) rfl ?_
  exact ⟨_, rfl, ⟨0, rfl, trivial⟩, HB.out⟩
set_option maxHeartbeats 8000000 in
set_option maxRecDepth 100000 in
theorem op_small.who (w : World) : Calls Try.prog 44 #[.func (.func 45) #[] #[]] w fun e w' => ∃ cs, e = .returned (.agg cs) ∧ FV w' .w cs ∧ Below w.heap.size w w' := by
  have HB := Aside0.mk (Below.refl w.heap.size w)
  have hmf : ∀ (fn : Fn) (first cap : Array Value) (w : World), (Instr.makeFunc fn first cap).run Try.prog w = .ok (.func fn first cap) w := fun _ _ _ _ => rfl
  go_enter Try.func44, Try.ntmps44
  go_wp2_with (first | ((with_reducible refine gate_dst (N := 1) rfl ?_); refine box_event ?hg (N := 1) ?hd (cs := #[.func (.func 45) #[] #[]]) (t := 69) ?hr ?_; (case hd => rfl); (case hg => rfl); (case hr => first | (go_simp; done) | (go_simp; rfl)); intro gq hg wx hbox hb; have n0_ := Aside0.mk (below_step (by repeat (first | (with_reducible first | exact HB.out | apply below_alloc | apply pw_below_drewN | apply below_drew1) | exact HB.out)) hb); have n1_ := Aside0.mk (hbox); have n2_ := Aside0.mk ((by rw [hg]; exact below_size (by repeat (first | (with_reducible first | exact HB.out | apply below_alloc | apply pw_below_drewN | apply below_drew1) | exact HB.out)) : w.heap.size ≤ gq)); clear HB; have HB := n0_; have HQ := n1_; have GEHQ := n2_; clear n0_ n1_ n2_; clear hb hbox hg) | ((with_reducible refine gate_dst (N := 2) rfl ?_); refine box_event ?hg (N := 2) ?hd (cs := #[.int .i64 0, .nilFunc, .nilFunc]) (t := 55) ?hr ?_; (case hd => rfl); (case hg => rfl); (case hr => exact Ar.galloc_run rfl (by kernel_rfl)); intro gb hg wx hbox hb; have n0_ := Aside0.mk (below_step (by repeat (first | (with_reducible first | exact HB.out | apply below_alloc | apply pw_below_drewN | apply below_drew1) | exact HB.out)) hb); have n1_ := Aside0.mk (blk_below (g := gq) (o := .cells #[.func (.func 45) #[] #[]] 69 (0, 0)) (by (with_reducible repeat (first | refine blk_drewN ?_ _ | refine blk_drew ?_ | refine blk_alloc ?_ _)); exact HQ.out) hb); have n2_ := Aside0.mk (hbox); have n3_ := Aside0.mk ((by rw [hg]; exact below_size (by repeat (first | (with_reducible first | exact HB.out | apply below_alloc | apply pw_below_drewN | apply below_drew1) | exact HB.out)) : w.heap.size ≤ gb)); have nn_ := Aside0.mk (by rw [hg]; exact Nat.ne_of_lt (blk_lt (g := gq) (o := .cells #[.func (.func 45) #[] #[]] 69 (0, 0)) (by (with_reducible repeat (first | refine blk_drewN ?_ _ | refine blk_drew ?_ | refine blk_alloc ?_ _)); exact HQ.out)) : gq ≠ gb); clear HB HQ; have HB := n0_; have HQ := n1_; have BK := n2_; have GEBK := n3_; clear n0_ n1_ n2_ n3_; have NE := nn_; clear nn_; clear hb hbox hg) | ((with_reducible refine gate_dst (N := 5) rfl ?_); refine Ar.gbuild_event rfl (T := 55) rfl (D := #[.int .i64 4, .func (.func 47) #[] #[.pointer (some ⟨gq, 0, none⟩)], .func (.func 49) #[] #[.pointer (some ⟨gq, 0, none⟩)]]) (by first | exact fBuild _ _ _ _ _ _ | (simp only [List.map_toArray, List.map_cons, List.map_nil]; exact fBuild _ _ _ _ _ _)) ?_) | ((with_reducible refine gate_store (t := 55) (p := 2) rfl ?_); refine Ar.gstore_event rfl rfl rfl (D := #[.int .i64 4, .func (.func 47) #[] #[.pointer (some ⟨gq, 0, none⟩)], .func (.func 49) #[] #[.pointer (some ⟨gq, 0, none⟩)]]) (by kernel_rfl) (g := gb) rfl (by first | rfl | (go_simp; done) | (go_simp; rfl)) (by (with_reducible repeat (first | refine blk_drewN ?_ _ | refine blk_drew ?_ | refine blk_alloc ?_ _)); exact BK.out) (by rfl) (by simp [Value.oneCell']) ?_; intro wz hbk_ hg; have n0_ := Aside0.mk hbk_; have n1_ := Aside0.mk (Below.grown (by repeat (first | (with_reducible first | exact HB.out | apply below_alloc | apply pw_below_drewN | apply below_drew1) | exact HB.out)) hg (below_size (by repeat (first | (with_reducible first | exact HB.out | apply below_alloc | apply pw_below_drewN | apply below_drew1) | exact HB.out))) (fun _ e_ => by cases e_; exact GEBK.out)); have NG := Aside0.mk hg; have n2_ := Aside0.mk (blk_grown (g := gq) (o := .cells #[.func (.func 45) #[] #[]] 69 (0, 0)) HQ.out hg (fun e_ => NE.out (Option.some.inj e_))); clear BK HB HQ; have BK := n0_; have HB := n1_; have HQ := n2_; clear n0_ n1_ n2_ hbk_ hg))
  refine bodyPost_ret (results_cell_row rfl _ _ gb 55 #[.int .i64 4, .func (.func 47) #[] #[.pointer (some ⟨gq, 0, none⟩)], .func (.func 49) #[] #[.pointer (some ⟨gq, 0, none⟩)]] (0, 0) _ rfl BK.out Try.underlying55 rfl (by kernel_rfl)) rfl ?_
  exact ⟨_, rfl, ⟨gq, rfl, HQ.out⟩, HB.out⟩
set_option maxHeartbeats 8000000 in
set_option maxRecDepth 100000 in
theorem op_who.calls (w : World) : Calls Try.prog 35 #[] w fun e w' => ∃ cs, e = .returned (.agg cs) ∧ FV w' .w cs ∧ Below w.heap.size w w' := by
  have HB := Aside0.mk (Below.refl w.heap.size w)
  go_enter Try.func35, Try.ntmps35
  go_wp2_with (first | ((with_reducible refine gate_dst (N := 0) rfl ?_); refine box_event ?hg (N := 0) ?hd (cs := #[.int .i64 0, .nilFunc, .nilFunc]) (t := 55) ?hr ?_; (case hd => rfl); (case hg => rfl); (case hr => exact Ar.galloc_run rfl (by kernel_rfl)); intro gb hg wx hbox hb; have n0_ := Aside0.mk (below_step (by repeat (first | (with_reducible first | exact HB.out | apply below_alloc | apply pw_below_drewN | apply below_drew1) | exact HB.out)) hb); have n1_ := Aside0.mk (hbox); have n2_ := Aside0.mk ((by rw [hg]; exact below_size (by repeat (first | (with_reducible first | exact HB.out | apply below_alloc | apply pw_below_drewN | apply below_drew1) | exact HB.out)) : w.heap.size ≤ gb)); clear HB; have HB := n0_; have BK := n1_; have GEBK := n2_; clear n0_ n1_ n2_; clear hb hbox hg) | ((with_reducible refine gate_callee (f := 44) rfl ?_); refine goesL_ (some 1) rfl rfl Try.func44 (by kernel_rfl) rfl #[.func (.func 45) #[] #[]] rfl (by (try simp only [List.map_toArray, List.map_cons, List.map_nil]); first | done | rfl) ?_; refine (op_small.who _).mono ?_; rintro e wx ⟨cs, rfl, hf, hb⟩; refine ⟨_, rfl, ?_⟩; have n0_ := Aside0.mk (below_step (by repeat (first | (with_reducible first | exact HB.out | apply below_alloc | apply pw_below_drewN | apply below_drew1) | exact HB.out)) hb); have n1_ := Aside0.mk (blk_below (g := gb) (o := .cells #[.int .i64 0, .nilFunc, .nilFunc] 55 (0, 0)) (by (with_reducible repeat (first | refine blk_drewN ?_ _ | refine blk_drew ?_ | refine blk_alloc ?_ _)); exact BK.out) hb); have n2_ := Aside0.mk (hf); have n3_ := Aside0.mk (hf.size); clear HB BK; have HB := n0_; have BK := n1_; have HF := n2_; have HS := n3_; clear n0_ n1_ n2_ n3_; clear hb) | ((with_reducible refine gate_store (t := 55) (p := 0) rfl ?_); refine Ar.gstore_event rfl rfl rfl (D := cs) (by rw [HS.out]; kernel_rfl) (g := gb) rfl (by first | rfl | (go_simp; done) | (go_simp; rfl)) (by (with_reducible repeat (first | refine blk_drewN ?_ _ | refine blk_drew ?_ | refine blk_alloc ?_ _)); exact BK.out) (by rw [HS.out]; rfl) HF.out.one ?_; intro wz hbk_ hg; have n0_ := Aside0.mk hbk_; have n1_ := Aside0.mk (Below.grown (by repeat (first | (with_reducible first | exact HB.out | apply below_alloc | apply pw_below_drewN | apply below_drew1) | exact HB.out)) hg (below_size (by repeat (first | (with_reducible first | exact HB.out | apply below_alloc | apply pw_below_drewN | apply below_drew1) | exact HB.out))) (fun _ e_ => by cases e_; exact GEBK.out)); have NG := Aside0.mk hg; have n2_ := Aside0.mk (FV.grown (by (with_reducible repeat (first | refine blk_drewN ?_ _ | refine blk_drew ?_ | refine blk_alloc ?_ _)); exact BK.out) hg HF.out); clear BK HB HF; have HF := n2_; have BK := n0_; have HB := n1_; clear n0_ n1_ n2_ hbk_ hg))
  refine bodyPost_ret (results_cell_row rfl _ _ gb 55 cs (0, 0) _ rfl BK.out Try.underlying55 rfl (by rw [HS.out]; kernel_rfl)) rfl ?_
  exact ⟨_, rfl, HF.out, HB.out⟩
set_option maxHeartbeats 8000000 in
set_option maxRecDepth 100000 in
theorem op_small.number (w : World) : Calls Try.prog 44 #[.func (.func 46) #[] #[]] w fun e w' => ∃ cs, e = .returned (.agg cs) ∧ FV w' .n cs ∧ Below w.heap.size w w' := by
  have HB := Aside0.mk (Below.refl w.heap.size w)
  have hmf : ∀ (fn : Fn) (first cap : Array Value) (w : World), (Instr.makeFunc fn first cap).run Try.prog w = .ok (.func fn first cap) w := fun _ _ _ _ => rfl
  go_enter Try.func44, Try.ntmps44
  go_wp2_with (first | ((with_reducible refine gate_dst (N := 1) rfl ?_); refine box_event ?hg (N := 1) ?hd (cs := #[.func (.func 46) #[] #[]]) (t := 69) ?hr ?_; (case hd => rfl); (case hg => rfl); (case hr => first | (go_simp; done) | (go_simp; rfl)); intro gq hg wx hbox hb; have n0_ := Aside0.mk (below_step (by repeat (first | (with_reducible first | exact HB.out | apply below_alloc | apply pw_below_drewN | apply below_drew1) | exact HB.out)) hb); have n1_ := Aside0.mk (hbox); have n2_ := Aside0.mk ((by rw [hg]; exact below_size (by repeat (first | (with_reducible first | exact HB.out | apply below_alloc | apply pw_below_drewN | apply below_drew1) | exact HB.out)) : w.heap.size ≤ gq)); clear HB; have HB := n0_; have HQ := n1_; have GEHQ := n2_; clear n0_ n1_ n2_; clear hb hbox hg) | ((with_reducible refine gate_dst (N := 2) rfl ?_); refine box_event ?hg (N := 2) ?hd (cs := #[.int .i64 0, .nilFunc, .nilFunc]) (t := 55) ?hr ?_; (case hd => rfl); (case hg => rfl); (case hr => exact Ar.galloc_run rfl (by kernel_rfl)); intro gb hg wx hbox hb; have n0_ := Aside0.mk (below_step (by repeat (first | (with_reducible first | exact HB.out | apply below_alloc | apply pw_below_drewN | apply below_drew1) | exact HB.out)) hb); have n1_ := Aside0.mk (blk_below (g := gq) (o := .cells #[.func (.func 46) #[] #[]] 69 (0, 0)) (by (with_reducible repeat (first | refine blk_drewN ?_ _ | refine blk_drew ?_ | refine blk_alloc ?_ _)); exact HQ.out) hb); have n2_ := Aside0.mk (hbox); have n3_ := Aside0.mk ((by rw [hg]; exact below_size (by repeat (first | (with_reducible first | exact HB.out | apply below_alloc | apply pw_below_drewN | apply below_drew1) | exact HB.out)) : w.heap.size ≤ gb)); have nn_ := Aside0.mk (by rw [hg]; exact Nat.ne_of_lt (blk_lt (g := gq) (o := .cells #[.func (.func 46) #[] #[]] 69 (0, 0)) (by (with_reducible repeat (first | refine blk_drewN ?_ _ | refine blk_drew ?_ | refine blk_alloc ?_ _)); exact HQ.out)) : gq ≠ gb); clear HB HQ; have HB := n0_; have HQ := n1_; have BK := n2_; have GEBK := n3_; clear n0_ n1_ n2_ n3_; have NE := nn_; clear nn_; clear hb hbox hg) | ((with_reducible refine gate_dst (N := 5) rfl ?_); refine Ar.gbuild_event rfl (T := 55) rfl (D := #[.int .i64 4, .func (.func 47) #[] #[.pointer (some ⟨gq, 0, none⟩)], .func (.func 49) #[] #[.pointer (some ⟨gq, 0, none⟩)]]) (by first | exact fBuild _ _ _ _ _ _ | (simp only [List.map_toArray, List.map_cons, List.map_nil]; exact fBuild _ _ _ _ _ _)) ?_) | ((with_reducible refine gate_store (t := 55) (p := 2) rfl ?_); refine Ar.gstore_event rfl rfl rfl (D := #[.int .i64 4, .func (.func 47) #[] #[.pointer (some ⟨gq, 0, none⟩)], .func (.func 49) #[] #[.pointer (some ⟨gq, 0, none⟩)]]) (by kernel_rfl) (g := gb) rfl (by first | rfl | (go_simp; done) | (go_simp; rfl)) (by (with_reducible repeat (first | refine blk_drewN ?_ _ | refine blk_drew ?_ | refine blk_alloc ?_ _)); exact BK.out) (by rfl) (by simp [Value.oneCell']) ?_; intro wz hbk_ hg; have n0_ := Aside0.mk hbk_; have n1_ := Aside0.mk (Below.grown (by repeat (first | (with_reducible first | exact HB.out | apply below_alloc | apply pw_below_drewN | apply below_drew1) | exact HB.out)) hg (below_size (by repeat (first | (with_reducible first | exact HB.out | apply below_alloc | apply pw_below_drewN | apply below_drew1) | exact HB.out))) (fun _ e_ => by cases e_; exact GEBK.out)); have NG := Aside0.mk hg; have n2_ := Aside0.mk (blk_grown (g := gq) (o := .cells #[.func (.func 46) #[] #[]] 69 (0, 0)) HQ.out hg (fun e_ => NE.out (Option.some.inj e_))); clear BK HB HQ; have BK := n0_; have HB := n1_; have HQ := n2_; clear n0_ n1_ n2_ hbk_ hg))
  refine bodyPost_ret (results_cell_row rfl _ _ gb 55 #[.int .i64 4, .func (.func 47) #[] #[.pointer (some ⟨gq, 0, none⟩)], .func (.func 49) #[] #[.pointer (some ⟨gq, 0, none⟩)]] (0, 0) _ rfl BK.out Try.underlying55 rfl (by kernel_rfl)) rfl ?_
  exact ⟨_, rfl, ⟨gq, rfl, HQ.out⟩, HB.out⟩
set_option maxHeartbeats 8000000 in
set_option maxRecDepth 100000 in
theorem op_number.calls (w : World) : Calls Try.prog 36 #[] w fun e w' => ∃ cs, e = .returned (.agg cs) ∧ FV w' .n cs ∧ Below w.heap.size w w' := by
  have HB := Aside0.mk (Below.refl w.heap.size w)
  go_enter Try.func36, Try.ntmps36
  go_wp2_with (first | ((with_reducible refine gate_dst (N := 0) rfl ?_); refine box_event ?hg (N := 0) ?hd (cs := #[.int .i64 0, .nilFunc, .nilFunc]) (t := 55) ?hr ?_; (case hd => rfl); (case hg => rfl); (case hr => exact Ar.galloc_run rfl (by kernel_rfl)); intro gb hg wx hbox hb; have n0_ := Aside0.mk (below_step (by repeat (first | (with_reducible first | exact HB.out | apply below_alloc | apply pw_below_drewN | apply below_drew1) | exact HB.out)) hb); have n1_ := Aside0.mk (hbox); have n2_ := Aside0.mk ((by rw [hg]; exact below_size (by repeat (first | (with_reducible first | exact HB.out | apply below_alloc | apply pw_below_drewN | apply below_drew1) | exact HB.out)) : w.heap.size ≤ gb)); clear HB; have HB := n0_; have BK := n1_; have GEBK := n2_; clear n0_ n1_ n2_; clear hb hbox hg) | ((with_reducible refine gate_callee (f := 44) rfl ?_); refine goesL_ (some 1) rfl rfl Try.func44 (by kernel_rfl) rfl #[.func (.func 46) #[] #[]] rfl (by (try simp only [List.map_toArray, List.map_cons, List.map_nil]); first | done | rfl) ?_; refine (op_small.number _).mono ?_; rintro e wx ⟨cs, rfl, hf, hb⟩; refine ⟨_, rfl, ?_⟩; have n0_ := Aside0.mk (below_step (by repeat (first | (with_reducible first | exact HB.out | apply below_alloc | apply pw_below_drewN | apply below_drew1) | exact HB.out)) hb); have n1_ := Aside0.mk (blk_below (g := gb) (o := .cells #[.int .i64 0, .nilFunc, .nilFunc] 55 (0, 0)) (by (with_reducible repeat (first | refine blk_drewN ?_ _ | refine blk_drew ?_ | refine blk_alloc ?_ _)); exact BK.out) hb); have n2_ := Aside0.mk (hf); have n3_ := Aside0.mk (hf.size); clear HB BK; have HB := n0_; have BK := n1_; have HF := n2_; have HS := n3_; clear n0_ n1_ n2_ n3_; clear hb) | ((with_reducible refine gate_store (t := 55) (p := 0) rfl ?_); refine Ar.gstore_event rfl rfl rfl (D := cs) (by rw [HS.out]; kernel_rfl) (g := gb) rfl (by first | rfl | (go_simp; done) | (go_simp; rfl)) (by (with_reducible repeat (first | refine blk_drewN ?_ _ | refine blk_drew ?_ | refine blk_alloc ?_ _)); exact BK.out) (by rw [HS.out]; rfl) HF.out.one ?_; intro wz hbk_ hg; have n0_ := Aside0.mk hbk_; have n1_ := Aside0.mk (Below.grown (by repeat (first | (with_reducible first | exact HB.out | apply below_alloc | apply pw_below_drewN | apply below_drew1) | exact HB.out)) hg (below_size (by repeat (first | (with_reducible first | exact HB.out | apply below_alloc | apply pw_below_drewN | apply below_drew1) | exact HB.out))) (fun _ e_ => by cases e_; exact GEBK.out)); have NG := Aside0.mk hg; have n2_ := Aside0.mk (FV.grown (by (with_reducible repeat (first | refine blk_drewN ?_ _ | refine blk_drew ?_ | refine blk_alloc ?_ _)); exact BK.out) hg HF.out); clear BK HB HF; have HF := n2_; have BK := n0_; have HB := n1_; clear n0_ n1_ n2_ hbk_ hg))
  refine bodyPost_ret (results_cell_row rfl _ _ gb 55 cs (0, 0) _ rfl BK.out Try.underlying55 rfl (by rw [HS.out]; kernel_rfl)) rfl ?_
  exact ⟨_, rfl, HF.out, HB.out⟩
set_option maxHeartbeats 8000000 in
set_option maxRecDepth 100000 in
theorem op_fields.calls (k : Int) (w : World) : Calls Try.prog 25 #[.int .i64 k] w fun e w' => ∃ A c, e = .returned (.tuple #[.slice A (flds k).1.length c, .bool (flds k).2]) ∧ FRow w' A (flds k).1 ∧ Below w.heap.size w w' := by
  have HB := Aside0.mk (Below.refl w.heap.size w)
  by_cases c1 : k = 1
  · subst c1
    rw [show flds 1 = ([Fld.h, Fld.a], true) from rfl]
    go_enter Try.func25, Try.ntmps25
    go_wp2_with (first | ((with_reducible refine gate_callee (f := 33) rfl ?_); refine goesL_ (some 7) rfl rfl Try.func33 (by kernel_rfl) rfl #[] rfl (by (try simp only [List.map_toArray, List.map_cons, List.map_nil]); first | done | rfl) ?_; refine (op_hash.calls _).mono ?_; rintro e wx ⟨cs1, rfl, hf, hb⟩; refine ⟨_, rfl, ?_⟩; have n0_ := Aside0.mk (below_step (by repeat (first | (with_reducible first | exact HB.out | apply below_alloc | apply pw_below_drewN | apply below_drew1) | exact HB.out)) hb); have h0_ := Aside0.mk hf; clear HB hf hb; have HB := n0_; have HF1 := h0_; clear n0_ h0_) | ((with_reducible refine gate_callee (f := 34) rfl ?_); refine goesL_ (some 8) rfl rfl Try.func34 (by kernel_rfl) rfl #[] rfl (by (try simp only [List.map_toArray, List.map_cons, List.map_nil]); first | done | rfl) ?_; refine (op_amount.calls _).mono ?_; rintro e wx ⟨cs2, rfl, hf, hb⟩; refine ⟨_, rfl, ?_⟩; have n0_ := Aside0.mk (below_step (by repeat (first | (with_reducible first | exact HB.out | apply below_alloc | apply pw_below_drewN | apply below_drew1) | exact HB.out)) hb); have m1_ := Aside0.mk (FV.below hb HF1.out); have h0_ := Aside0.mk hf; clear HB hf hb HF1; have HB := n0_; have HF2 := h0_; have HF1 := m1_; clear n0_ h0_ m1_) | ((with_reducible refine gate_dst (N := 9) rfl ?_); refine Ar.glit2_event rfl (T := 50) (E := 55) rfl (D := cs1) (D' := cs2) Try.underlying50 fInfo rfl (by decide) (by decide) rfl HF1.out.size rfl HF2.out.size ?_; intro g hg wx hbk hb; have n0_ := Aside0.mk (below_step (by repeat (first | (with_reducible first | exact HB.out | apply below_alloc | apply pw_below_drewN | apply below_drew1) | exact HB.out)) hb); have n1_ := Aside0.mk (FRow.two (HF1.out.below hb) (HF2.out.below hb) hbk); clear HB hb hbk hg; have HB := n0_; have HR := n1_; clear n0_ n1_))
    go_ret2
    exact ⟨_, _, rfl, HR.out, HB.out⟩
  by_cases c2 : k = 2
  · subst c2
    rw [show flds 2 = ([Fld.w, Fld.a], true) from rfl]
    go_enter Try.func25, Try.ntmps25
    go_wp2_with (first | ((with_reducible refine gate_callee (f := 35) rfl ?_); refine goesL_ (some 13) rfl rfl Try.func35 (by kernel_rfl) rfl #[] rfl (by (try simp only [List.map_toArray, List.map_cons, List.map_nil]); first | done | rfl) ?_; refine (op_who.calls _).mono ?_; rintro e wx ⟨cs1, rfl, hf, hb⟩; refine ⟨_, rfl, ?_⟩; have n0_ := Aside0.mk (below_step (by repeat (first | (with_reducible first | exact HB.out | apply below_alloc | apply pw_below_drewN | apply below_drew1) | exact HB.out)) hb); have h0_ := Aside0.mk hf; clear HB hf hb; have HB := n0_; have HF1 := h0_; clear n0_ h0_) | ((with_reducible refine gate_callee (f := 34) rfl ?_); refine goesL_ (some 14) rfl rfl Try.func34 (by kernel_rfl) rfl #[] rfl (by (try simp only [List.map_toArray, List.map_cons, List.map_nil]); first | done | rfl) ?_; refine (op_amount.calls _).mono ?_; rintro e wx ⟨cs2, rfl, hf, hb⟩; refine ⟨_, rfl, ?_⟩; have n0_ := Aside0.mk (below_step (by repeat (first | (with_reducible first | exact HB.out | apply below_alloc | apply pw_below_drewN | apply below_drew1) | exact HB.out)) hb); have m1_ := Aside0.mk (FV.below hb HF1.out); have h0_ := Aside0.mk hf; clear HB hf hb HF1; have HB := n0_; have HF2 := h0_; have HF1 := m1_; clear n0_ h0_ m1_) | ((with_reducible refine gate_dst (N := 15) rfl ?_); refine Ar.glit2_event rfl (T := 50) (E := 55) rfl (D := cs1) (D' := cs2) Try.underlying50 fInfo rfl (by decide) (by decide) rfl HF1.out.size rfl HF2.out.size ?_; intro g hg wx hbk hb; have n0_ := Aside0.mk (below_step (by repeat (first | (with_reducible first | exact HB.out | apply below_alloc | apply pw_below_drewN | apply below_drew1) | exact HB.out)) hb); have n1_ := Aside0.mk (FRow.two (HF1.out.below hb) (HF2.out.below hb) hbk); clear HB hb hbk hg; have HB := n0_; have HR := n1_; clear n0_ n1_))
    go_ret2
    exact ⟨_, _, rfl, HR.out, HB.out⟩
  by_cases c3 : k = 3
  · subst c3
    rw [show flds 3 = ([Fld.w, Fld.a], true) from rfl]
    go_enter Try.func25, Try.ntmps25
    go_wp2_with (first | ((with_reducible refine gate_callee (f := 35) rfl ?_); refine goesL_ (some 13) rfl rfl Try.func35 (by kernel_rfl) rfl #[] rfl (by (try simp only [List.map_toArray, List.map_cons, List.map_nil]); first | done | rfl) ?_; refine (op_who.calls _).mono ?_; rintro e wx ⟨cs1, rfl, hf, hb⟩; refine ⟨_, rfl, ?_⟩; have n0_ := Aside0.mk (below_step (by repeat (first | (with_reducible first | exact HB.out | apply below_alloc | apply pw_below_drewN | apply below_drew1) | exact HB.out)) hb); have h0_ := Aside0.mk hf; clear HB hf hb; have HB := n0_; have HF1 := h0_; clear n0_ h0_) | ((with_reducible refine gate_callee (f := 34) rfl ?_); refine goesL_ (some 14) rfl rfl Try.func34 (by kernel_rfl) rfl #[] rfl (by (try simp only [List.map_toArray, List.map_cons, List.map_nil]); first | done | rfl) ?_; refine (op_amount.calls _).mono ?_; rintro e wx ⟨cs2, rfl, hf, hb⟩; refine ⟨_, rfl, ?_⟩; have n0_ := Aside0.mk (below_step (by repeat (first | (with_reducible first | exact HB.out | apply below_alloc | apply pw_below_drewN | apply below_drew1) | exact HB.out)) hb); have m1_ := Aside0.mk (FV.below hb HF1.out); have h0_ := Aside0.mk hf; clear HB hf hb HF1; have HB := n0_; have HF2 := h0_; have HF1 := m1_; clear n0_ h0_ m1_) | ((with_reducible refine gate_dst (N := 15) rfl ?_); refine Ar.glit2_event rfl (T := 50) (E := 55) rfl (D := cs1) (D' := cs2) Try.underlying50 fInfo rfl (by decide) (by decide) rfl HF1.out.size rfl HF2.out.size ?_; intro g hg wx hbk hb; have n0_ := Aside0.mk (below_step (by repeat (first | (with_reducible first | exact HB.out | apply below_alloc | apply pw_below_drewN | apply below_drew1) | exact HB.out)) hb); have n1_ := Aside0.mk (FRow.two (HF1.out.below hb) (HF2.out.below hb) hbk); clear HB hb hbk hg; have HB := n0_; have HR := n1_; clear n0_ n1_))
    go_ret2
    exact ⟨_, _, rfl, HR.out, HB.out⟩
  by_cases c4 : k = 4
  · subst c4
    rw [show flds 4 = ([Fld.w, Fld.h], true) from rfl]
    go_enter Try.func25, Try.ntmps25
    go_wp2_with (first | ((with_reducible refine gate_callee (f := 35) rfl ?_); refine goesL_ (some 19) rfl rfl Try.func35 (by kernel_rfl) rfl #[] rfl (by (try simp only [List.map_toArray, List.map_cons, List.map_nil]); first | done | rfl) ?_; refine (op_who.calls _).mono ?_; rintro e wx ⟨cs1, rfl, hf, hb⟩; refine ⟨_, rfl, ?_⟩; have n0_ := Aside0.mk (below_step (by repeat (first | (with_reducible first | exact HB.out | apply below_alloc | apply pw_below_drewN | apply below_drew1) | exact HB.out)) hb); have h0_ := Aside0.mk hf; clear HB hf hb; have HB := n0_; have HF1 := h0_; clear n0_ h0_) | ((with_reducible refine gate_callee (f := 33) rfl ?_); refine goesL_ (some 20) rfl rfl Try.func33 (by kernel_rfl) rfl #[] rfl (by (try simp only [List.map_toArray, List.map_cons, List.map_nil]); first | done | rfl) ?_; refine (op_hash.calls _).mono ?_; rintro e wx ⟨cs2, rfl, hf, hb⟩; refine ⟨_, rfl, ?_⟩; have n0_ := Aside0.mk (below_step (by repeat (first | (with_reducible first | exact HB.out | apply below_alloc | apply pw_below_drewN | apply below_drew1) | exact HB.out)) hb); have m1_ := Aside0.mk (FV.below hb HF1.out); have h0_ := Aside0.mk hf; clear HB hf hb HF1; have HB := n0_; have HF2 := h0_; have HF1 := m1_; clear n0_ h0_ m1_) | ((with_reducible refine gate_dst (N := 21) rfl ?_); refine Ar.glit2_event rfl (T := 50) (E := 55) rfl (D := cs1) (D' := cs2) Try.underlying50 fInfo rfl (by decide) (by decide) rfl HF1.out.size rfl HF2.out.size ?_; intro g hg wx hbk hb; have n0_ := Aside0.mk (below_step (by repeat (first | (with_reducible first | exact HB.out | apply below_alloc | apply pw_below_drewN | apply below_drew1) | exact HB.out)) hb); have n1_ := Aside0.mk (FRow.two (HF1.out.below hb) (HF2.out.below hb) hbk); clear HB hb hbk hg; have HB := n0_; have HR := n1_; clear n0_ n1_))
    go_ret2
    exact ⟨_, _, rfl, HR.out, HB.out⟩
  by_cases c5 : k = 5
  · subst c5
    rw [show flds 5 = ([Fld.w, Fld.h], true) from rfl]
    go_enter Try.func25, Try.ntmps25
    go_wp2_with (first | ((with_reducible refine gate_callee (f := 35) rfl ?_); refine goesL_ (some 19) rfl rfl Try.func35 (by kernel_rfl) rfl #[] rfl (by (try simp only [List.map_toArray, List.map_cons, List.map_nil]); first | done | rfl) ?_; refine (op_who.calls _).mono ?_; rintro e wx ⟨cs1, rfl, hf, hb⟩; refine ⟨_, rfl, ?_⟩; have n0_ := Aside0.mk (below_step (by repeat (first | (with_reducible first | exact HB.out | apply below_alloc | apply pw_below_drewN | apply below_drew1) | exact HB.out)) hb); have h0_ := Aside0.mk hf; clear HB hf hb; have HB := n0_; have HF1 := h0_; clear n0_ h0_) | ((with_reducible refine gate_callee (f := 33) rfl ?_); refine goesL_ (some 20) rfl rfl Try.func33 (by kernel_rfl) rfl #[] rfl (by (try simp only [List.map_toArray, List.map_cons, List.map_nil]); first | done | rfl) ?_; refine (op_hash.calls _).mono ?_; rintro e wx ⟨cs2, rfl, hf, hb⟩; refine ⟨_, rfl, ?_⟩; have n0_ := Aside0.mk (below_step (by repeat (first | (with_reducible first | exact HB.out | apply below_alloc | apply pw_below_drewN | apply below_drew1) | exact HB.out)) hb); have m1_ := Aside0.mk (FV.below hb HF1.out); have h0_ := Aside0.mk hf; clear HB hf hb HF1; have HB := n0_; have HF2 := h0_; have HF1 := m1_; clear n0_ h0_ m1_) | ((with_reducible refine gate_dst (N := 21) rfl ?_); refine Ar.glit2_event rfl (T := 50) (E := 55) rfl (D := cs1) (D' := cs2) Try.underlying50 fInfo rfl (by decide) (by decide) rfl HF1.out.size rfl HF2.out.size ?_; intro g hg wx hbk hb; have n0_ := Aside0.mk (below_step (by repeat (first | (with_reducible first | exact HB.out | apply below_alloc | apply pw_below_drewN | apply below_drew1) | exact HB.out)) hb); have n1_ := Aside0.mk (FRow.two (HF1.out.below hb) (HF2.out.below hb) hbk); clear HB hb hbk hg; have HB := n0_; have HR := n1_; clear n0_ n1_))
    go_ret2
    exact ⟨_, _, rfl, HR.out, HB.out⟩
  by_cases c6 : k = 6
  · subst c6
    rw [show flds 6 = (([] : List Fld), true) from rfl]
    go_enter Try.func25, Try.ntmps25
    go_wp2
    go_ret2
    exact ⟨none, 0, rfl, FRow.nil _ _, HB.out⟩
  by_cases c11 : k = 11
  · subst c11
    rw [show flds 11 = (([] : List Fld), true) from rfl]
    go_enter Try.func25, Try.ntmps25
    go_wp2
    go_ret2
    exact ⟨none, 0, rfl, FRow.nil _ _, HB.out⟩
  by_cases c7 : k = 7
  · subst c7
    rw [show flds 7 = ([Fld.n], true) from rfl]
    go_enter Try.func25, Try.ntmps25
    go_wp2_with (first | ((with_reducible refine gate_callee (f := 36) rfl ?_); refine goesL_ (some 28) rfl rfl Try.func36 (by kernel_rfl) rfl #[] rfl (by (try simp only [List.map_toArray, List.map_cons, List.map_nil]); first | done | rfl) ?_; refine (op_number.calls _).mono ?_; rintro e wx ⟨cs1, rfl, hf, hb⟩; refine ⟨_, rfl, ?_⟩; have n0_ := Aside0.mk (below_step (by repeat (first | (with_reducible first | exact HB.out | apply below_alloc | apply pw_below_drewN | apply below_drew1) | exact HB.out)) hb); have h0_ := Aside0.mk hf; clear HB hf hb; have HB := n0_; have HF1 := h0_; clear n0_ h0_) | ((with_reducible refine gate_dst (N := 29) rfl ?_); refine Ar.glit1_event rfl (T := 50) (E := 55) rfl (D := cs1) Try.underlying50 fInfo rfl (by decide) (by decide) rfl HF1.out.size ?_; intro g hg wx hbk hb; have n0_ := Aside0.mk (below_step (by repeat (first | (with_reducible first | exact HB.out | apply below_alloc | apply pw_below_drewN | apply below_drew1) | exact HB.out)) hb); have n1_ := Aside0.mk (FRow.one (HF1.out.below hb) hbk); clear HB hb hbk hg; have HB := n0_; have HR := n1_; clear n0_ n1_))
    go_ret2
    exact ⟨_, _, rfl, HR.out, HB.out⟩
  by_cases c8 : k = 8
  · subst c8
    rw [show flds 8 = ([Fld.n], true) from rfl]
    go_enter Try.func25, Try.ntmps25
    go_wp2_with (first | ((with_reducible refine gate_callee (f := 36) rfl ?_); refine goesL_ (some 28) rfl rfl Try.func36 (by kernel_rfl) rfl #[] rfl (by (try simp only [List.map_toArray, List.map_cons, List.map_nil]); first | done | rfl) ?_; refine (op_number.calls _).mono ?_; rintro e wx ⟨cs1, rfl, hf, hb⟩; refine ⟨_, rfl, ?_⟩; have n0_ := Aside0.mk (below_step (by repeat (first | (with_reducible first | exact HB.out | apply below_alloc | apply pw_below_drewN | apply below_drew1) | exact HB.out)) hb); have h0_ := Aside0.mk hf; clear HB hf hb; have HB := n0_; have HF1 := h0_; clear n0_ h0_) | ((with_reducible refine gate_dst (N := 29) rfl ?_); refine Ar.glit1_event rfl (T := 50) (E := 55) rfl (D := cs1) Try.underlying50 fInfo rfl (by decide) (by decide) rfl HF1.out.size ?_; intro g hg wx hbk hb; have n0_ := Aside0.mk (below_step (by repeat (first | (with_reducible first | exact HB.out | apply below_alloc | apply pw_below_drewN | apply below_drew1) | exact HB.out)) hb); have n1_ := Aside0.mk (FRow.one (HF1.out.below hb) hbk); clear HB hb hbk hg; have HB := n0_; have HR := n1_; clear n0_ n1_))
    go_ret2
    exact ⟨_, _, rfl, HR.out, HB.out⟩
  by_cases c9 : k = 9
  · subst c9
    rw [show flds 9 = ([Fld.n, Fld.w], true) from rfl]
    go_enter Try.func25, Try.ntmps25
    go_wp2_with (first | ((with_reducible refine gate_callee (f := 36) rfl ?_); refine goesL_ (some 32) rfl rfl Try.func36 (by kernel_rfl) rfl #[] rfl (by (try simp only [List.map_toArray, List.map_cons, List.map_nil]); first | done | rfl) ?_; refine (op_number.calls _).mono ?_; rintro e wx ⟨cs1, rfl, hf, hb⟩; refine ⟨_, rfl, ?_⟩; have n0_ := Aside0.mk (below_step (by repeat (first | (with_reducible first | exact HB.out | apply below_alloc | apply pw_below_drewN | apply below_drew1) | exact HB.out)) hb); have h0_ := Aside0.mk hf; clear HB hf hb; have HB := n0_; have HF1 := h0_; clear n0_ h0_) | ((with_reducible refine gate_callee (f := 35) rfl ?_); refine goesL_ (some 33) rfl rfl Try.func35 (by kernel_rfl) rfl #[] rfl (by (try simp only [List.map_toArray, List.map_cons, List.map_nil]); first | done | rfl) ?_; refine (op_who.calls _).mono ?_; rintro e wx ⟨cs2, rfl, hf, hb⟩; refine ⟨_, rfl, ?_⟩; have n0_ := Aside0.mk (below_step (by repeat (first | (with_reducible first | exact HB.out | apply below_alloc | apply pw_below_drewN | apply below_drew1) | exact HB.out)) hb); have m1_ := Aside0.mk (FV.below hb HF1.out); have h0_ := Aside0.mk hf; clear HB hf hb HF1; have HB := n0_; have HF2 := h0_; have HF1 := m1_; clear n0_ h0_ m1_) | ((with_reducible refine gate_dst (N := 34) rfl ?_); refine Ar.glit2_event rfl (T := 50) (E := 55) rfl (D := cs1) (D' := cs2) Try.underlying50 fInfo rfl (by decide) (by decide) rfl HF1.out.size rfl HF2.out.size ?_; intro g hg wx hbk hb; have n0_ := Aside0.mk (below_step (by repeat (first | (with_reducible first | exact HB.out | apply below_alloc | apply pw_below_drewN | apply below_drew1) | exact HB.out)) hb); have n1_ := Aside0.mk (FRow.two (HF1.out.below hb) (HF2.out.below hb) hbk); clear HB hb hbk hg; have HB := n0_; have HR := n1_; clear n0_ n1_))
    go_ret2
    exact ⟨_, _, rfl, HR.out, HB.out⟩
  by_cases c10 : k = 10
  · subst c10
    rw [show flds 10 = ([Fld.w, Fld.n], true) from rfl]
    go_enter Try.func25, Try.ntmps25
    go_wp2_with (first | ((with_reducible refine gate_callee (f := 35) rfl ?_); refine goesL_ (some 37) rfl rfl Try.func35 (by kernel_rfl) rfl #[] rfl (by (try simp only [List.map_toArray, List.map_cons, List.map_nil]); first | done | rfl) ?_; refine (op_who.calls _).mono ?_; rintro e wx ⟨cs1, rfl, hf, hb⟩; refine ⟨_, rfl, ?_⟩; have n0_ := Aside0.mk (below_step (by repeat (first | (with_reducible first | exact HB.out | apply below_alloc | apply pw_below_drewN | apply below_drew1) | exact HB.out)) hb); have h0_ := Aside0.mk hf; clear HB hf hb; have HB := n0_; have HF1 := h0_; clear n0_ h0_) | ((with_reducible refine gate_callee (f := 36) rfl ?_); refine goesL_ (some 38) rfl rfl Try.func36 (by kernel_rfl) rfl #[] rfl (by (try simp only [List.map_toArray, List.map_cons, List.map_nil]); first | done | rfl) ?_; refine (op_number.calls _).mono ?_; rintro e wx ⟨cs2, rfl, hf, hb⟩; refine ⟨_, rfl, ?_⟩; have n0_ := Aside0.mk (below_step (by repeat (first | (with_reducible first | exact HB.out | apply below_alloc | apply pw_below_drewN | apply below_drew1) | exact HB.out)) hb); have m1_ := Aside0.mk (FV.below hb HF1.out); have h0_ := Aside0.mk hf; clear HB hf hb HF1; have HB := n0_; have HF2 := h0_; have HF1 := m1_; clear n0_ h0_ m1_) | ((with_reducible refine gate_dst (N := 39) rfl ?_); refine Ar.glit2_event rfl (T := 50) (E := 55) rfl (D := cs1) (D' := cs2) Try.underlying50 fInfo rfl (by decide) (by decide) rfl HF1.out.size rfl HF2.out.size ?_; intro g hg wx hbk hb; have n0_ := Aside0.mk (below_step (by repeat (first | (with_reducible first | exact HB.out | apply below_alloc | apply pw_below_drewN | apply below_drew1) | exact HB.out)) hb); have n1_ := Aside0.mk (FRow.two (HF1.out.below hb) (HF2.out.below hb) hbk); clear HB hb hbk hg; have HB := n0_; have HR := n1_; clear n0_ n1_))
    go_ret2
    exact ⟨_, _, rfl, HR.out, HB.out⟩
  have hfl : flds k = ([], false) := by simp [flds, c1, c2, c3, c4, c5, c6, c11, c7, c8, c9, c10]
  have c1b : (k == 1) = false := by simpa using c1
  have c2b : (k == 2) = false := by simpa using c2
  have c3b : (k == 3) = false := by simpa using c3
  have c4b : (k == 4) = false := by simpa using c4
  have c5b : (k == 5) = false := by simpa using c5
  have c6b : (k == 6) = false := by simpa using c6
  have c11b : (k == 11) = false := by simpa using c11
  have c7b : (k == 7) = false := by simpa using c7
  have c8b : (k == 8) = false := by simpa using c8
  have c9b : (k == 9) = false := by simpa using c9
  have c10b : (k == 10) = false := by simpa using c10
  clear c1 c2 c3 c4 c5 c6 c11 c7 c8 c9 c10
  rw [hfl]
  go_enter Try.func25, Try.ntmps25
  go_wp2
  go_ret2
  exact ⟨none, 0, rfl, FRow.nil _ _, HB.out⟩

/-! ### op_Size: function 14 -/
def szs (L : List Fld) : Int := (L.map (fun x => (x.size : Int))).sum
theorem szs_take {L : List Fld} {i : Nat} {x : Fld} (h : L[i]? = some x) : szs (L.take (i + 1)) = szs (L.take i) + x.size := by
  unfold szs
  rw [List.take_add_one, h]
  simp
theorem szs_le : ∀ (L : List Fld) , 0 ≤ szs L ∧ szs L ≤ 32 * L.length
  | [] => by simp [szs]
  | x :: L => by
    have := szs_le L
    have h : szs (x :: L) = x.size + szs L := by simp [szs]
    have : x.size ≤ 32 := by cases x <;> simp [Fld.size]
    simp only [List.length_cons]
    omega
def op_Size.f (a0 : Int) : Option (Int × Bool) := some (if (flds a0).2 = true then (1 + szs (flds a0).1, true) else (0, false))
set_option maxHeartbeats 8000000 in
set_option maxRecDepth 100000 in
theorem op_Size.calls (a0 : Int) (r1 : Int) (r2 : Bool) (w : World) (h : op_Size.f a0 = some (r1, r2)) :
    Calls Try.prog 14 #[.int .i64 a0] w fun e w' => e = .returned (.tuple #[.int .i64 r1, .bool r2]) ∧ Below w.heap.size w w' := by
  have HB := Aside0.mk (Below.refl w.heap.size w)
  unfold op_Size.f at h
  have HL := Aside0.mk (flds_len a0)
  generalize hL : (flds a0).1 = L at h HL
  by_cases hok : (flds a0).2 = true
  · rw [if_pos hok] at h
    simp only [Option.some.injEq, Prod.mk.injEq] at h
    obtain ⟨rfl, rfl⟩ := h
    go_enter Try.func14, Try.ntmps14
    go_wp2_with (first | ((with_reducible refine gate_callee (f := 25) rfl ?_); refine goesL_ (some 11) rfl rfl Try.func25 (by kernel_rfl) rfl #[.int .i64 a0] rfl (by (try simp only [List.map_toArray, List.map_cons, List.map_nil]); first | done | rfl) ?_; refine (op_fields.calls a0 _).mono ?_; rintro e wx ⟨A, c, rfl, hf, hb⟩; refine ⟨_, rfl, ?_⟩; have n0_ := Aside0.mk (below_step (by repeat (first | (with_reducible first | exact HB.out | apply below_alloc | apply pw_below_drewN | apply below_drew1) | exact HB.out)) hb); have n1_ := Aside0.mk hf; clear HB hf hb; have HB := n0_; have HF := n1_; clear n0_ n1_))
    rw [hL] at HF
    go_loopg [6, 18] (L.length + 1) (fun kq v6 v18 w' => ∃ i : Nat, v6 = .int .i64 (1 + szs (L.take i)) ∧ v18 = .int .i64 (i : Int) ∧ Aside0 (kq + i = L.length + 1) ∧ Aside0 (FRow w' A L) ∧ Aside0 (Below w.heap.size w w'))
    case atStart => exact ⟨0, by simp [szs], rfl, ⟨rfl⟩, HF, HB⟩
    case round =>
      clear HF HB
      obtain ⟨i, rfl, rfl, HK, HF, HB⟩ := hrel
      by_cases c4 : i < L.length
      · have hsz := szs_le (L.take i)
        have HS := Aside0.mk hsz
        clear hsz
        obtain ⟨x, hx⟩ : ∃ x, L[i]? = some x := ⟨_, List.getElem?_eq_getElem c4⟩
        have HLx := Aside0.mk hx
        obtain ⟨ad, cs, rfl, hv, hc⟩ := HF.out i x hx
        have HX : Aside0 (cs.toList[0]? = some (.int .i64 x.size)) := ⟨by obtain ⟨c_, e_, _⟩ := hv; rw [e_]; rfl⟩
        have HV := Aside0.mk hv
        have HC := Aside0.mk hc
        have p1 := eq_true (show (0 : Int) ≤ (i : Int) by omega)
        have q1 := eq_true (show (i : Int) < (L.length : Int) by omega)
        have c4b0 : decide ((i : Int) < (L.length : Int)) = true := decide_eq_true (by omega)
        have c4b1 : decide (i < L.length) = true := decide_eq_true c4
        have C4 := Aside0.mk c4
        clear hx hv hc c4
        have HW : Aside0 (wrap64 (1 + szs (L.take i) + (x.size : Int)) = 1 + szs (L.take (i + 1)) ∧ wrap64 ((i : Int) + 1) = ((i + 1 : Nat) : Int)) := ⟨by
          have h1 := szs_take HLx.out
          have h2 := HS.out
          have h3 := HL.out
          have h4 : (L.take i).length ≤ 2 := by rw [List.length_take]; omega
          have h5 : x.size ≤ 32 := by cases x <;> simp [Fld.size]
          have h6 := C4.out
          rw [h1]
          unfold wrap64
          omega⟩
        go_wp2_with (first | ((with_reducible refine gate_dst (N := 21) rfl ?_); refine Ar.gload_event rfl (T := 55) rfl Try.underlying55 rfl (D := cs) (by rw [HV.out.size]; kernel_rfl) (A := ad.add (i * 3)) (by first | rfl | (go_simp; done) | (go_simp; rfl)) (fun j_ v_ hj_ => by rw [add_add]; exact HC.out j_ v_ hj_) ?_) | ((with_reducible refine gate_dst (N := 8) rfl ?_); refine box_event ?hg (N := 8) ?hd (cs := #[.int .i64 0, .nilFunc, .nilFunc]) (t := 55) ?hr ?_; (case hd => rfl); (case hg => rfl); (case hr => exact Ar.galloc_run rfl (by kernel_rfl)); intro gb hg wx hbox hb; have n0_ := Aside0.mk (below_step (by repeat (first | (with_reducible first | exact HB.out | apply below_alloc | apply pw_below_drewN | apply below_drew1) | exact HB.out)) hb); have n1_ := Aside0.mk (hbox); have n2_ := Aside0.mk ((by rw [hg]; exact below_size (by repeat (first | (with_reducible first | exact HB.out | apply below_alloc | apply pw_below_drewN | apply below_drew1) | exact HB.out)) : w.heap.size ≤ gb)); have f0_ := Aside0.mk (FRow.below hb HF.out); have f1_ := Aside0.mk (FV.below hb HV.out); have f2_ := Aside0.mk (by rw [hg]; exact Nat.ne_of_lt (by have := World.block_lt_of_cell? _ _ (HC.out 0 _ HX.out); rwa [add_block] at this) : ad.block ≠ gb); clear HF HV HC; have HF := f0_; have HV := f1_; have NE := f2_; clear f0_ f1_ f2_; clear HB; have HB := n0_; have BK := n1_; have GEBK := n2_; clear n0_ n1_ n2_; clear hb hbox hg) | ((with_reducible refine gate_store (t := 55) (p := 8) rfl ?_); refine Ar.gstore_event rfl rfl rfl (D := cs) (by rw [HV.out.size]; kernel_rfl) (g := gb) rfl (by first | rfl | (go_simp; done) | (go_simp; rfl)) (by (with_reducible repeat (first | refine blk_drewN ?_ _ | refine blk_drew ?_ | refine blk_alloc ?_ _)); exact BK.out) (by rw [HV.out.size]; rfl) HV.out.one ?_; intro wz hbk_ hg; have n0_ := Aside0.mk hbk_; have n1_ := Aside0.mk (Below.grown (by repeat (first | (with_reducible first | exact HB.out | apply below_alloc | apply pw_below_drewN | apply below_drew1) | exact HB.out)) hg (below_size (by repeat (first | (with_reducible first | exact HB.out | apply below_alloc | apply pw_below_drewN | apply below_drew1) | exact HB.out))) (fun _ e_ => by cases e_; exact GEBK.out)); have n2_ := Aside0.mk (FRow.grown (by (with_reducible repeat (first | refine blk_drewN ?_ _ | refine blk_drew ?_ | refine blk_alloc ?_ _)); exact BK.out) hg (fun ad_ e_ => by cases e_; exact NE.out) HF.out); have n3_ := Aside0.mk (FV.grown (by (with_reducible repeat (first | refine blk_drewN ?_ _ | refine blk_drew ?_ | refine blk_alloc ?_ _)); exact BK.out) hg HV.out); clear BK HB HF HV hbk_ hg; have BK := n0_; have HB := n1_; have HF := n2_; have HV := n3_; clear n0_ n1_ n2_ n3_) | ((with_reducible refine gate_dst (N := 24) rfl ?_); refine Ar.cload_event rfl (T := 3) rfl Try.underlying3 rfl (A := ⟨gb, 0, none⟩) rfl (v := .int .i64 (x.size : Int)) (Ar.blk_at (by (with_reducible repeat (first | refine blk_drewN ?_ _ | refine blk_drew ?_ | refine blk_alloc ?_ _)); exact BK.out) HX.out) ?_))
        obtain ⟨k1, rfl⟩ : ∃ m, gk = m + 1 := ⟨gk - 1, by have := HK.out; have := C4.out; omega⟩
        go_roundg k1
        case measure => omega
        case rel => exact ⟨i + 1, by rw [HW.out.1], by rw [HW.out.2], ⟨by have := HK.out; omega⟩, HF, HB⟩
      · have c4b0 : decide ((i : Int) < (L.length : Int)) = false := decide_eq_false (by omega)
        have c4b1 : decide (i < L.length) = false := decide_eq_false c4
        have hi : L.take i = L := List.take_of_length_le (by omega)
        rw [hi]
        clear c4 hi
        go_wp2
        go_ret2
        exact ⟨rfl, HB.out⟩
  · have hok' : (flds a0).2 = false := by simpa using hok
    rw [if_neg hok] at h
    simp only [Option.some.injEq, Prod.mk.injEq] at h
    obtain ⟨rfl, rfl⟩ := h
    clear hok
    go_enter Try.func14, Try.ntmps14
    go_wp2_with (first | ((with_reducible refine gate_callee (f := 25) rfl ?_); refine goesL_ (some 11) rfl rfl Try.func25 (by kernel_rfl) rfl #[.int .i64 a0] rfl (by (try simp only [List.map_toArray, List.map_cons, List.map_nil]); first | done | rfl) ?_; refine (op_fields.calls a0 _).mono ?_; rintro e wx ⟨A, c, rfl, hf, hb⟩; refine ⟨_, rfl, ?_⟩; have n0_ := Aside0.mk (below_step (by repeat (first | (with_reducible first | exact HB.out | apply below_alloc | apply pw_below_drewN | apply below_drew1) | exact HB.out)) hb); have n1_ := Aside0.mk hf; clear HB hf hb; have HB := n0_; have HF := n1_; clear n0_ n1_))
    go_ret2
    exact ⟨rfl, HB.out⟩

/-! ### op_whole: function 26 -/
def op_whole.f (l0 : List Int) : Option (Bool) := if 0 < (l0.length : Int) then ((op_Size.f (wrap64 (rd l0 0))).bind fun bt118 => (if bt118.2 = true then (some (decide (bt118.1 ≤ (l0.length : Int)))) else (some true))) else (none)
set_option maxHeartbeats 8000000 in
set_option maxRecDepth 100000 in
theorem op_whole.calls (A0 : Option Addr) (c0 : Nat) (l0 : List Int) (r : Bool) (w : World) (hr0 : Kd.C (Kd.int .u8) w A0 l0.length l0) (hc0 : l0.length ≤ c0) (h : op_whole.f l0 = some r) :
    Calls Try.prog 26 #[.slice A0 l0.length c0] w fun e w' => e = .returned (.bool r) ∧ Below w.heap.size w w' := by
  have HR0 := Aside0.mk hr0
  have HC0 := Aside0.mk hc0
  clear hr0 hc0
  have HB := Aside0.mk (Below.refl w.heap.size w)
  have H : (if 0 < (l0.length : Int) then ((op_Size.f (wrap64 (rd l0 0))).bind fun bt118 => (if bt118.2 = true then (some (decide (bt118.1 ≤ (l0.length : Int)))) else (some true))) else (none)) = some r := h
  clear h
  by_cases c2 : 0 < (l0.length : Int)
  · rw [if_pos c2] at H
    have c2b0 : decide (0 < (l0.length : Int)) = true := decide_eq_true c2
    have c2b1 : decide (0 < l0.length) = true := decide_eq_true (by omega)
    clear c2
    replace H := Option.bind_eq_some_iff.mp H
    obtain ⟨⟨t118, t119⟩, A30, H⟩ := H
    replace H : (if t119 = true then (some (decide (t118 ≤ (l0.length : Int)))) else (some true)) = some r := H
    have A3 := Aside0.mk A30
    clear A30
    by_cases c4 : t119 = true
    · subst c4
      have H1 : (some (decide (t118 ≤ (l0.length : Int)))) = some r := by rw [if_pos rfl] at H; exact H
      clear H
      have H := H1
      clear H1
      obtain rfl := Option.some.inj H
      have p117 : 0 ≤ (0 : Int) := (by omega)
      have q117 : 0 < (l0.length : Int) := of_decide_eq_true (by first | (with_reducible assumption) | assumption)
      obtain ⟨ad117, e117, hx117_0⟩ := Kd.at_int HR0.out 0 p117 q117
      cases e117
      have qi117 : (0 < l0.length) = True := eq_true (by omega)
      (try rw [show ((0 : Int)).toNat = 0 from rfl] at hx117_0)
      (try rw [Addr.add_zero'] at hx117_0)
      replace p117 := eq_true p117
      replace q117 := eq_true q117
      go_enter Try.func26, Try.ntmps26
      go_wp2_with (first | ((with_reducible refine gate_callee (f := 14) rfl ?_); refine goesL_ (some 10) rfl rfl Try.func14 (by kernel_rfl) rfl #[.int .i64 (wrap64 (rd l0 0))] rfl (by (try simp only [List.map_toArray, List.map_cons, List.map_nil]); first | done | rfl | (simp only [List.length_drop, List.length_take]; rfl)) ?_; (with_reducible refine (op_Size.calls (wrap64 (rd l0 0)) t118 true _ A3.out).mono ?_); rintro e w5 ⟨rfl, hb⟩; refine ⟨_, rfl, ?_⟩; have n0_ := Aside0.mk (below_step (by repeat (first | (with_reducible first | exact HB.out | apply below_alloc | apply pw_below_drewN | apply below_drew1) | exact HB.out)) hb); clear HB; have HB := n0_; clear n0_; (try clear hb); (try clear hb2); (try clear hk); (try clear hi)))
      go_ret
      exact ⟨by first | rfl | (simp [errW_none, errW_some] <;> rfl) | (simp [*, errW_none, errW_some] <;> rfl), by repeat (first | (with_reducible first | exact HB.out | apply below_alloc | apply pw_below_drewN | apply below_drew1) | exact HB.out)⟩
    · replace c4 := Bool.eq_false_iff.mpr c4
      subst c4
      have H1 : (some true) = some r := by rw [if_neg (show ¬ (false = true) by decide)] at H; exact H
      clear H
      have H := H1
      clear H1
      obtain rfl := Option.some.inj H
      have p117 : 0 ≤ (0 : Int) := (by omega)
      have q117 : 0 < (l0.length : Int) := of_decide_eq_true (by first | (with_reducible assumption) | assumption)
      obtain ⟨ad117, e117, hx117_0⟩ := Kd.at_int HR0.out 0 p117 q117
      cases e117
      have qi117 : (0 < l0.length) = True := eq_true (by omega)
      (try rw [show ((0 : Int)).toNat = 0 from rfl] at hx117_0)
      (try rw [Addr.add_zero'] at hx117_0)
      replace p117 := eq_true p117
      replace q117 := eq_true q117
      go_enter Try.func26, Try.ntmps26
      go_wp2_with (first | ((with_reducible refine gate_callee (f := 14) rfl ?_); refine goesL_ (some 10) rfl rfl Try.func14 (by kernel_rfl) rfl #[.int .i64 (wrap64 (rd l0 0))] rfl (by (try simp only [List.map_toArray, List.map_cons, List.map_nil]); first | done | rfl | (simp only [List.length_drop, List.length_take]; rfl)) ?_; (with_reducible refine (op_Size.calls (wrap64 (rd l0 0)) t118 false _ A3.out).mono ?_); rintro e w6 ⟨rfl, hb⟩; refine ⟨_, rfl, ?_⟩; have n0_ := Aside0.mk (below_step (by repeat (first | (with_reducible first | exact HB.out | apply below_alloc | apply pw_below_drewN | apply below_drew1) | exact HB.out)) hb); clear HB; have HB := n0_; clear n0_; (try clear hb); (try clear hb2); (try clear hk); (try clear hi)))
      go_ret
      exact ⟨by first | rfl | (simp [errW_none, errW_some] <;> rfl) | (simp [*, errW_none, errW_some] <;> rfl), by repeat (first | (with_reducible first | exact HB.out | apply below_alloc | apply pw_below_drewN | apply below_drew1) | exact HB.out)⟩
  · rw [if_neg c2] at H
    exact absurd H (by simp)

end Go.Proofs.Ytkbpdnhbmceajaa.PQ
