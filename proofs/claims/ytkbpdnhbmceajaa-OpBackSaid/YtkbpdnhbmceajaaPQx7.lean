/- Written by xprint.py, this session's own driver, for the seat Ytkbpdnhbmceajaa: contracts of Go functions, each saying that a call answers what a plain Lean function of the same name says, and, in a text named Law, the row of a law: its Go function answers true for every input. No conditions. -/
import Derived.Test.YtkbpdnhbmceajaaPQx0
import Derived.Test.YtkbpdnhbmceajaaPQx6
namespace Go.Proofs.Ytkbpdnhbmceajaa.PQ
open Go.RowKit Go.Proofs.YtkbpdnhbmceajaaW.PrintWords Go.Proofs.YtkbpdnhbmceajaaW.PrintLast Go.Proofs.YtkbpdnhbmceajaaW.PrintMore
attribute [local go_sem] max2_int min2_int max_two min_two max_three min_three max_four min_four   -- for this text's walks alone
set_option linter.unusedVariables false
set_option linter.unusedSimpArgs false

/-! ### drawlotref24_get: function 21 -/
/-- The cells of an operation. -/
abbrev opG (o : S39) : Array Value := #[.int .i64 o.f0, .int .i64 o.f1, .int .u64 o.f2] ++ (Ar.cells .u8 32 o.f3 ++ #[.int .i64 o.f4])
theorem opG_0 (o : S39) : (opG o).toList[0]? = some (.int .i64 o.f0) := Ar.at_head rfl
theorem opG_1 (o : S39) : (opG o).toList[1]? = some (.int .i64 o.f1) := Ar.at_head rfl
theorem opG_2 (o : S39) : (opG o).toList[2]? = some (.int .u64 o.f2) := Ar.at_head rfl
theorem opG_35 (o : S39) : (opG o).toList[35]? = some (.int .i64 o.f4) := Ar.at_skip (a := 3) (c := 32) rfl (Ar.at_skip (a := 32) (c := 0) (by simp [Ar.cells_size]) rfl)
theorem opG_h (o : S39) : ∀ (j : Nat) (v : Value), (Ar.cells .u8 32 o.f3).toList[j]? = some v → (opG o).toList[3 + j]? = some v := Ar.in_mid rfl
theorem opG_set1 (o : S39) (z : Int) : (opG o).setIfInBounds 1 (.int .i64 z) = opG { o with f1 := z } := by
  rw [opG, Ar.set_head _ (by simp)]
  rfl
theorem opG_set2 (o : S39) (z : Int) : (opG o).setIfInBounds 2 (.int .u64 z) = opG { o with f2 := z } := by
  rw [opG, Ar.set_head _ (by simp)]
  rfl
theorem opG_set35 (o : S39) (z : Int) : (opG o).setIfInBounds 35 (.int .i64 z) = opG { o with f4 := z } := by
  rw [opG, show (35 : Nat) = 3 + (32 + 0) from rfl, Ar.set_tail (a := 3) (c := 32 + 0) _ rfl, Ar.set_tail (a := 32) (c := 0) _ (by simp [Ar.cells_size])]
  rfl

/-- The reference's field, taken out of bytes. -/
def getF (k : Nat) (o : S39) (c : Int) (b : List Int) : Option S39 :=
  if c = 119 then (if 4 ≤ b.length then (drawlotref01_Get32.f k [rd b 0, rd b 1, rd b 2, rd b 3]).bind fun z => some { o with f1 := wrap64 z } else none)
  else if c = 110 then (if 4 ≤ b.length then (drawlotref01_Get32.f k [rd b 0, rd b 1, rd b 2, rd b 3]).bind fun z => some { o with f4 := wrap64 z } else none)
  else if c = 97 then (if 8 ≤ b.length then (drawlotref01_Get64.f k [rd b 0, rd b 1, rd b 2, rd b 3, rd b 4, rd b 5, rd b 6, rd b 7]).bind fun z => some { o with f2 := z } else none)
  else if c = 104 then (if 32 ≤ b.length then some { o with f3 := b.take 32 } else none) else some o
theorem getF.mono (o : S39) (c : Int) (b : List Int) (k : Nat) : LeO (getF k o c b) (getF (k + 1) o c b) := by
  unfold getF
  exact LeO.ite (LeO.ite (LeO.bind (drawlotref01_Get32.mono _ k) (fun _ => LeO.refl _)) (LeO.none _)) (LeO.ite (LeO.ite (LeO.bind (drawlotref01_Get32.mono _ k) (fun _ => LeO.refl _)) (LeO.none _)) (LeO.ite (LeO.ite (LeO.bind (drawlotref01_Get64.mono _ k) (fun _ => LeO.refl _)) (LeO.none _)) (LeO.refl _)))
def drawlotref24_get.f (k : Nat) (a0_0 : Int) (a0_1 : Int) (a0_2 : Int) (a0_3 : List Int) (a0_4 : Int) (a1 : Int) (l2 : List Int) : Option (Int × Int × Int × List Int × Int) := (getF k ⟨a0_0, a0_1, a0_2, a0_3, a0_4⟩ a1 l2).bind fun o => some (o.f0, o.f1, o.f2, o.f3, o.f4)
theorem drawlotref24_get.mono : ∀ a0 a1 a2 a3 a4 a5 a6 k, LeO (drawlotref24_get.f k a0 a1 a2 a3 a4 a5 a6) (drawlotref24_get.f (k + 1) a0 a1 a2 a3 a4 a5 a6) := fun a0 a1 a2 a3 a4 a5 a6 k => by
  unfold drawlotref24_get.f
  exact LeO.bind (getF.mono _ _ _ k) (fun _ => LeO.refl _)
theorem opG_setH (o : S39) (i : Nat) (hi : i < 32) (z : Int) : (opG o).setIfInBounds (3 + i) (.int .u8 z) = opG { o with f3 := Ar.set 32 o.f3 i z } := by
  rw [opG, Ar.set_tail (a := 3) (c := i) _ rfl, Ar.set_head _ (by rw [Ar.cells_size]; exact hi)]
  have := Ar.cells_set (k := .u8) (n := 32) (l := o.f3) (j := (i : Int)) (v := z)
  rw [Int.toNat_natCast] at this
  rw [this]
theorem opG_atH (o : S39) (i : Nat) (hi : i < 32) : (opG o).toList[3 + i]? = some (.int .u8 (Ar.get 32 o.f3 i)) := by
  refine opG_h o i _ ?_
  have := Ar.cells_at (k := .u8) (n := 32) (l := o.f3) (j := (i : Int)) (by omega) (by omega)
  rw [Int.toNat_natCast] at this
  rw [Array.getElem?_toList]; exact this

theorem gstore_step {P : Program} {ops : Array Oper} {o : Oper} {a : Act} {Q : Exit → Act → World → Prop} {W : World} {Kc : Act → World → Prop} (hw : Region.wanted o (yielded ops a.tmps) = true) {T : TypeId} {p : Tmp} {v : Operand} (ho : o.op = .store T (.tmp p) v) (hN : o.dst = none) {D : Array Value} (hi : (P.info? T).map (·.size) = some D.size)
    {g : Nat} (hx : a.eval (.tmp p) = .pointer (some ⟨g, 0, none⟩)) (hv : a.eval v = .agg D) {C : Array Value} {T' : TypeId} (hb : W.heap[g]? = some (.cells C T' (0, 0))) (hs : C.size = D.size) (h1 : D.all (·.oneCell') = true)
    (h : ∀ w', w'.heap[g]? = some (.cells D T' (0, 0)) → W.grownBy w' (some g) → Kc a w') : if Region.wanted o (yielded ops a.tmps) = true then Oper.wp P o a W Kc Q else Kc (a.put o.dst undef) W := by
  rw [if_pos hw]
  refine wp_store_row T (.tmp p) v ho g D hx hv T' _ hb hi hs h1 ?_
  rw [hN]
  exact h _ (setRow_heap _ _ _ _ _ _ hb) ⟨rfl, rfl, rfl, by simp, fun q _ hq => setRow_other _ _ _ _ (by rintro rfl; exact hq rfl)⟩
theorem get_set_eq (l : List Int) (i : Nat) (hi : i < 32) (z : Int) : Ar.get 32 (Ar.set 32 l i z) i = z := by
  unfold Ar.get
  rw [Ar.fit_id (by simp [Ar.set, Ar.fit_len])]
  simp [Ar.set, rd, Ar.fit_len, hi]
theorem get_set_ne (l : List Int) (i j : Nat) (h : i ≠ j) (z : Int) : Ar.get 32 (Ar.set 32 l i z) j = Ar.get 32 l j := by
  unfold Ar.get
  rw [Ar.fit_id (by simp [Ar.set, Ar.fit_len])]
  simp [Ar.set, rd, h]
theorem cells_of_get {l m : List Int} (h : ∀ j : Nat, j < 32 → Ar.get 32 l j = Ar.get 32 m j) : Ar.cells .u8 32 l = Ar.cells .u8 32 m := by
  rw [Ar.cells_eq, Ar.cells_eq]
  congr 1
  exact List.map_congr_left fun i hi => by rw [h i (List.mem_range.mp hi)]
abbrev opZ : Array Value := #[.int .i64 0, .int .i64 0, .int .u64 0] ++ (Ar.cells .u8 32 (List.replicate 32 0) ++ #[.int .i64 0])
set_option maxHeartbeats 8000000 in
set_option maxRecDepth 100000 in
theorem drawlotref24_get.callsO (k : Nat) (o : S39) (a1 : Int) (A2 : Option Addr) (c2 : Nat) (l2 : List Int) (o1 : S39) (w : World) (hr2 : Kd.C (Kd.int .u8) w A2 l2.length l2) (h : getF k o a1 l2 = some o1) :
    Calls Try.prog 21 #[.agg (opG o), .int .u8 a1, .slice A2 l2.length c2] w fun e w' => e = .returned (.agg (opG o1)) ∧ Below w.heap.size w w' := by
  have HR := Aside0.mk hr2
  have HB := Aside0.mk (Below.refl w.heap.size w)
  clear hr2
  unfold getF at h
  by_cases c119 : a1 = 119
  · rw [if_pos c119] at h
    have c119b : (a1 == 119) = true := by simpa using c119
    by_cases hn : 4 ≤ l2.length
    · rw [if_pos hn] at h
      obtain ⟨z, hz, h⟩ := Option.bind_eq_some_iff.mp h
      obtain rfl := Option.some.inj h
      have HZ := Aside0.mk hz
      have hat : ∀ j : Nat, j < 4 → ∃ ad, A2 = some ad ∧ w.cell? (ad.add j) = some (.int .u8 (rd l2 (j : Int))) := fun j hj => by
        obtain ⟨ad, e, hx⟩ := Kd.at_int HR.out (j : Int) (by omega) (by omega)
        rw [Int.toNat_natCast] at hx
        exact ⟨ad, e, hx⟩
      obtain ⟨ad, rfl, hx0⟩ := hat 0 (by omega)
      rw [Addr.add_zero'] at hx0
      have HX0 := Aside0.mk hx0
      have HX : Aside0 (∀ j : Nat, j < 4 → w.cell? (ad.add j) = some (.int .u8 (rd l2 (j : Int)))) := ⟨fun j hj => by
        obtain ⟨ad2, e2, hx⟩ := hat j hj
        cases e2
        exact hx⟩
      have q0 := eq_true (show ((0 : Int) < (l2.length : Int)) by omega)
      have r0 := eq_true (show (0 < l2.length) by omega)
      have q1 := eq_true (show ((1 : Int) < (l2.length : Int)) by omega)
      have r1 := eq_true (show (1 < l2.length) by omega)
      have q2 := eq_true (show ((2 : Int) < (l2.length : Int)) by omega)
      have r2 := eq_true (show (2 < l2.length) by omega)
      have q3 := eq_true (show ((3 : Int) < (l2.length : Int)) by omega)
      have r3 := eq_true (show (3 < l2.length) by omega)
      clear c119
      clear hat hx0 hz hn
      go_enter Try.func21, Try.ntmps21
      go_wp2_with (first | ((with_reducible refine gate_dst (N := 3) rfl ?_); refine box_event ?hg (N := 3) ?hd (cs := opG o) (t := 39) ?hr ?_; (case hd => rfl); (case hg => rfl); (case hr => exact Ar.gbox_run rfl rfl); intro gb hg wx hbox hb; have n0_ := Aside0.mk (below_step (by repeat (first | (with_reducible first | exact HB.out | apply below_alloc | apply pw_below_drewN | apply below_drew1) | exact HB.out)) hb); have n1_ := Aside0.mk (hbox); have n2_ := Aside0.mk ((by rw [hg]; exact below_size (by repeat (first | (with_reducible first | exact HB.out | apply below_alloc | apply pw_below_drewN | apply below_drew1) | exact HB.out)) : w.heap.size ≤ gb)); clear HB; have HB := n0_; have BO := n1_; have GEBO := n2_; clear n0_ n1_ n2_; clear hb hbox hg) | ((with_reducible refine gate_dst (N := 6) rfl ?_); refine box_event ?hg (N := 6) ?hd (cs := opZ) (t := 39) ?hr ?_; (case hd => rfl); (case hg => rfl); (case hr => exact Ar.galloc_run rfl (by kernel_rfl)); intro gr hg wx hbox hb; have n0_ := Aside0.mk (below_step (by repeat (first | (with_reducible first | exact HB.out | apply below_alloc | apply pw_below_drewN | apply below_drew1) | exact HB.out)) hb); have n1_ := Aside0.mk (blk_below (g := gb) (o := .cells (opG o) 39 (0, 0)) (by (with_reducible repeat (first | refine blk_drewN ?_ _ | refine blk_drew ?_ | refine blk_alloc ?_ _)); exact BO.out) hb); have n2_ := Aside0.mk (hbox); have n3_ := Aside0.mk ((by rw [hg]; exact below_size (by repeat (first | (with_reducible first | exact HB.out | apply below_alloc | apply pw_below_drewN | apply below_drew1) | exact HB.out)) : w.heap.size ≤ gr)); have m0_ := Aside0.mk (by rw [hg]; exact Nat.ne_of_lt (blk_lt (g := gb) (o := .cells (opG o) 39 (0, 0)) (by (with_reducible repeat (first | refine blk_drewN ?_ _ | refine blk_drew ?_ | refine blk_alloc ?_ _)); exact BO.out)) : gb ≠ gr); clear HB BO; have HB := n0_; have BO := n1_; have BR := n2_; have GEBR := n3_; clear n0_ n1_ n2_ n3_; have NE := m0_; clear hb hbox hg m0_))
      have n0_ := Aside0.mk (below_drew1 HB.out)
      have n1_ := Aside0.mk (blk_drew BO.out)
      have n2_ := Aside0.mk (blk_drew BR.out)
      clear HB BR
      have HB := n0_
      have BR := n2_
      clear n0_ n1_ n2_
      refine start_ (n := 17) (S := fun w' => w'.cell? ad = some (.int .u8 (rd l2 0)) ∧ w'.cell? (⟨ad.block, ad.off + 1, none⟩ : Addr) = some (.int .u8 (rd l2 1)) ∧ w'.cell? (⟨ad.block, ad.off + 2, none⟩ : Addr) = some (.int .u8 (rd l2 2)) ∧ w'.cell? (⟨ad.block, ad.off + 3, none⟩ : Addr) = some (.int .u8 (rd l2 3)) ∧ w'.heap[gb]? = some (.cells (opG o) 39 (0, 0))) (ds := [16]) #[false, false, false, false, false, false, false, false, false, false, false, false, false, false, false, false, false] (by kernel_rfl) rfl rfl ⟨(HB.out.cell (World.block_lt_of_cell? w _ HX0.out)).trans HX0.out, (HB.out.cell (World.block_lt_of_cell? w _ (HX.out 1 (by omega)))).trans (HX.out 1 (by omega)), (HB.out.cell (World.block_lt_of_cell? w _ (HX.out 2 (by omega)))).trans (HX.out 2 (by omega)), (HB.out.cell (World.block_lt_of_cell? w _ (HX.out 3 (by omega)))).trans (HX.out 3 (by omega)), blk_drew BO.out⟩ (fun hHeld => ?_)
      refine pure_ (i := 0) (N := some 11) (v := ?_) (a' := ?_) #[true, false, false, false, false, false, false, false, false, false, false, false, false, false, false, false, false] rfl rfl (by kernel_rfl) (fun _ _ _ h => h) (Or.inl ⟨by rfl, ?_⟩) ?_ ?_
      rotate_left
      · intro w'
        go_simp
        with_reducible rfl
      rotate_left
      · simp only [Act.put, List.setIfInBounds_toArray, List.set_cons_zero, List.set_cons_succ, i64_w, i32_w]
        rfl
      refine pure_ (i := 1) (N := some 12) (v := ?_) (a' := ?_) #[true, true, false, false, false, false, false, false, false, false, false, false, false, false, false, false, false] rfl rfl (by kernel_rfl) (fun _ _ _ h => h) (Or.inl ⟨by rfl, ?_⟩) ?_ ?_
      rotate_left
      · intro w'
        go_simp
        with_reducible rfl
      rotate_left
      · simp only [Act.put, List.setIfInBounds_toArray, List.set_cons_zero, List.set_cons_succ, i64_w, i32_w]
        rfl
      refine pure_ (i := 3) (N := some 14) (v := ?_) (a' := ?_) #[true, true, false, true, false, false, false, false, false, false, false, false, false, false, false, false, false] rfl rfl (by kernel_rfl) (fun _ _ _ h => h) (Or.inl ⟨by rfl, ?_⟩) ?_ ?_
      rotate_left
      · intro w'
        go_simp
        with_reducible rfl
      rotate_left
      · simp only [Act.put, List.setIfInBounds_toArray, List.set_cons_zero, List.set_cons_succ, i64_w, i32_w]
        rfl
      refine pure_ (i := 4) (N := some 15) (v := ?_) (a' := ?_) #[true, true, false, true, true, false, false, false, false, false, false, false, false, false, false, false, false] rfl rfl (by kernel_rfl) (fun _ _ _ h => h) (Or.inl ⟨by rfl, ?_⟩) ?_ ?_
      rotate_left
      · intro w'
        go_simp
        with_reducible rfl
      rotate_left
      · simp only [Act.put, List.setIfInBounds_toArray, List.set_cons_zero, List.set_cons_succ, i64_w, i32_w]
        rfl
      refine pure_ (i := 6) (N := some 17) (v := ?_) (a' := ?_) #[true, true, false, true, true, false, true, false, false, false, false, false, false, false, false, false, false] rfl rfl (by kernel_rfl) (fun _ _ _ h => h) (Or.inl ⟨by rfl, ?_⟩) ?_ ?_
      rotate_left
      · intro w'
        go_simp
        with_reducible rfl
      rotate_left
      · simp only [Act.put, List.setIfInBounds_toArray, List.set_cons_zero, List.set_cons_succ, i64_w, i32_w]
        rfl
      refine pure_ (i := 7) (N := some 18) (v := ?_) (a' := ?_) #[true, true, false, true, true, false, true, true, false, false, false, false, false, false, false, false, false] rfl rfl (by kernel_rfl) (fun _ _ _ h => h) (Or.inl ⟨by rfl, ?_⟩) ?_ ?_
      rotate_left
      · intro w'
        go_simp
        with_reducible rfl
      rotate_left
      · simp only [Act.put, List.setIfInBounds_toArray, List.set_cons_zero, List.set_cons_succ, i64_w, i32_w]
        rfl
      refine pure_ (i := 9) (N := some 20) (v := ?_) (a' := ?_) #[true, true, false, true, true, false, true, true, false, true, false, false, false, false, false, false, false] rfl rfl (by kernel_rfl) (fun _ _ _ h => h) (Or.inl ⟨by rfl, ?_⟩) ?_ ?_
      rotate_left
      · intro w'
        go_simp
        with_reducible rfl
      rotate_left
      · simp only [Act.put, List.setIfInBounds_toArray, List.set_cons_zero, List.set_cons_succ, i64_w, i32_w]
        rfl
      refine pure_ (i := 10) (N := some 21) (v := ?_) (a' := ?_) #[true, true, false, true, true, false, true, true, false, true, true, false, false, false, false, false, false] rfl rfl (by kernel_rfl) (fun _ _ _ h => h) (Or.inl ⟨by rfl, ?_⟩) ?_ ?_
      rotate_left
      · intro w'
        go_simp
        with_reducible rfl
      rotate_left
      · simp only [Act.put, List.setIfInBounds_toArray, List.set_cons_zero, List.set_cons_succ, i64_w, i32_w]
        rfl
      refine take_ (i := 2) (N := some 13) (v := ?_) (a' := ?_) #[true, true, true, true, true, false, true, true, false, true, true, false, false, false, false, false, false] rfl rfl (by kernel_rfl) (fun _ _ _ h => h) (Or.inl ⟨by rfl, ?_⟩) hHeld ?_ ?_
      rotate_left
      · rintro w' ⟨s0, s1, s2, s3, s4⟩
        go_simp
        with_reducible rfl
      rotate_left
      · simp only [Act.put, List.setIfInBounds_toArray, List.set_cons_zero, List.set_cons_succ, i64_w, i32_w]
        rfl
      refine take_ (i := 5) (N := some 16) (v := ?_) (a' := ?_) #[true, true, true, true, true, true, true, true, false, true, true, false, false, false, false, false, false] rfl rfl (by kernel_rfl) (fun _ _ _ h => h) (Or.inl ⟨by rfl, ?_⟩) hHeld ?_ ?_
      rotate_left
      · rintro w' ⟨s0, s1, s2, s3, s4⟩
        go_simp
        with_reducible rfl
      rotate_left
      · simp only [Act.put, List.setIfInBounds_toArray, List.set_cons_zero, List.set_cons_succ, i64_w, i32_w]
        rfl
      refine take_ (i := 8) (N := some 19) (v := ?_) (a' := ?_) #[true, true, true, true, true, true, true, true, true, true, true, false, false, false, false, false, false] rfl rfl (by kernel_rfl) (fun _ _ _ h => h) (Or.inl ⟨by rfl, ?_⟩) hHeld ?_ ?_
      rotate_left
      · rintro w' ⟨s0, s1, s2, s3, s4⟩
        go_simp
        with_reducible rfl
      rotate_left
      · simp only [Act.put, List.setIfInBounds_toArray, List.set_cons_zero, List.set_cons_succ, i64_w, i32_w]
        rfl
      refine take_ (i := 11) (N := some 22) (v := ?_) (a' := ?_) #[true, true, true, true, true, true, true, true, true, true, true, true, false, false, false, false, false] rfl rfl (by kernel_rfl) (fun _ _ _ h => h) (Or.inl ⟨by rfl, ?_⟩) hHeld ?_ ?_
      rotate_left
      · rintro w' ⟨s0, s1, s2, s3, s4⟩
        go_simp
        with_reducible rfl
      rotate_left
      · simp only [Act.put, List.setIfInBounds_toArray, List.set_cons_zero, List.set_cons_succ, i64_w, i32_w]
        rfl
      refine pure_ (i := 12) (N := some 23) (v := ?_) (a' := ?_) #[true, true, true, true, true, true, true, true, true, true, true, true, true, false, false, false, false] rfl rfl (by kernel_rfl) (fun _ _ _ h => h) (Or.inl ⟨by rfl, ?_⟩) ?_ ?_
      rotate_left
      · intro w'
        refine (Ar.build_run rfl (T := 60) (k := .u8) (n := 4) (l := [rd l2 0, rd l2 1, rd l2 2, rd l2 3]) Try.underlying60 (by kernel_rfl) (by kernel_rfl) [(0, rd l2 0), (1, rd l2 1), (2, rd l2 2), (3, rd l2 3)] (by rfl) (by rfl) (by rfl)).trans ?_; with_reducible rfl
      rotate_left
      · simp only [Act.put, List.setIfInBounds_toArray, List.set_cons_zero, List.set_cons_succ, i64_w, i32_w]
        rfl
      refine one_ (i := 13) (N := some 24) #[true, true, true, true, true, true, true, true, true, true, true, true, true, true, false, false, false] rfl rfl (by kernel_rfl) (by decide) (fun K hK => ?_)
      refine goes_ Try.func29 (by kernel_rfl) rfl #[.agg (Ar.cells .u8 4 [rd l2 0, rd l2 1, rd l2 2, rd l2 3])] (by rfl) rfl rfl (by simp only [List.map_toArray, List.map_cons, List.map_nil]; rfl) ?_
      with_reducible refine (drawlotref01_Get32.calls k [rd l2 0, rd l2 1, rd l2 2, rd l2 3] z _ HZ.out).mono ?_
      rintro e wy ⟨rfl, hb⟩
      refine ⟨_, rfl, ?_⟩
      have n0_ := Aside0.mk (below_step (by repeat (first | (with_reducible first | exact HB.out | apply below_alloc | apply pw_below_drewN | apply below_drew1) | exact HB.out)) hb)
      have n1_ := Aside0.mk (blk_below (g := gr) (o := .cells opZ 39 (0, 0)) (by (with_reducible repeat (first | refine blk_drewN ?_ _ | refine blk_drew ?_ | refine blk_alloc ?_ _)); exact BR.out) hb)
      clear HB BR
      have HB := n0_
      have BR := n1_
      clear n0_ n1_
      refine hK.out _ _ ⟨(hb.cell (World.block_lt_of_cell? _ _ (hHeld.1))).trans (hHeld.1), (hb.cell (World.block_lt_of_cell? _ _ (hHeld.2.1))).trans (hHeld.2.1), (hb.cell (World.block_lt_of_cell? _ _ (hHeld.2.2.1))).trans (hHeld.2.2.1), (hb.cell (World.block_lt_of_cell? _ _ (hHeld.2.2.2.1))).trans (hHeld.2.2.2.1), blk_below (g := gb) (o := .cells (opG o) 39 (0, 0)) (hHeld.2.2.2.2) hb⟩ (fun hHeld => ?_)
      clear hK K
      refine norm_ (a' := ?_) ?_ ?_
      rotate_left
      · show Act.put _ (some 24) _ = _
        simp only [Act.put, List.setIfInBounds_toArray, List.set_cons_zero, List.set_cons_succ, i64_w, i32_w]
        rfl
      refine pure_ (i := 14) (N := some 25) (v := ?_) (a' := ?_) #[true, true, true, true, true, true, true, true, true, true, true, true, true, true, true, false, false] rfl rfl (by kernel_rfl) (fun _ _ _ h => h) (Or.inl ⟨by rfl, ?_⟩) ?_ ?_
      rotate_left
      · intro w'
        go_simp
        with_reducible rfl
      rotate_left
      · simp only [Act.put, List.setIfInBounds_toArray, List.set_cons_zero, List.set_cons_succ, i64_w, i32_w]
        rfl
      refine pure_ (i := 15) (N := some 26) (v := ?_) (a' := ?_) #[true, true, true, true, true, true, true, true, true, true, true, true, true, true, true, true, false] rfl rfl (by kernel_rfl) (fun _ _ _ h => h) (Or.inl ⟨by rfl, ?_⟩) ?_ ?_
      rotate_left
      · intro w'
        go_simp
        with_reducible rfl
      rotate_left
      · simp only [Act.put, List.setIfInBounds_toArray, List.set_cons_zero, List.set_cons_succ, i64_w, i32_w]
        rfl
      refine last_ (i := 16) (N := none) #[true, true, true, true, true, true, true, true, true, true, true, true, true, true, true, true, true] rfl rfl (by kernel_rfl) (by decide) (fun K hK => ?_)
      refine skip_ (by rfl) rfl (Ar.cstore_run rfl (by kernel_rfl) (g := gb) (c := 1) rfl (by first | rfl | (go_simp; done) | (go_simp; rfl)) (hHeld.2.2.2.2) (opG_1 o)) ?_
      obtain ⟨NB0, NG0⟩ := Ar.cstore_after (k := .i64) (c := 1) (z := wrap64 z) (hHeld.2.2.2.2)
      generalize hq_ : World.setCell wy ⟨gb, 1, none⟩ (.int .i64 (wrap64 z)) = wz at NB0 NG0 ⊢
      rw [opG_set1] at NB0
      have n0_ := Aside0.mk (Below.grown (by repeat (first | (with_reducible first | exact HB.out | apply below_alloc | apply pw_below_drewN | apply below_drew1) | exact HB.out)) NG0 (below_size (by repeat (first | (with_reducible first | exact HB.out | apply below_alloc | apply pw_below_drewN | apply below_drew1) | exact HB.out))) (fun _ e_ => by cases e_; exact GEBO.out))
      have n1_ := Aside0.mk (blk_grown (g := gr) (o := .cells opZ 39 (0, 0)) (by (with_reducible repeat (first | refine blk_drewN ?_ _ | refine blk_drew ?_ | refine blk_alloc ?_ _)); exact BR.out) NG0 (fun e_ => NE.out (Option.some.inj e_).symm))
      have n2_ := Aside0.mk NB0
      clear HB BR NB0 NG0 hq_
      have HB := n0_
      have BR := n1_
      have NB := n2_
      clear n0_ n1_ n2_
      refine hK.out _ _ ?_
      clear hK K
      refine done_ (by kernel_rfl) ?_
      go_wp2_with (first | ((with_reducible refine gate_dst (N := 87) rfl ?_); refine Ar.gload_event rfl (T := 39) rfl Try.underlying39 rfl (D := opG { o with f1 := wrap64 z }) (by simp only [opG, Array.size_append, Ar.cells_size, List.size_toArray, List.length_cons, List.length_nil]; kernel_rfl) (A := ⟨gb, 0, none⟩) rfl (Ar.blk_part (by (with_reducible repeat (first | refine blk_drewN ?_ _ | refine blk_drew ?_ | refine blk_alloc ?_ _)); exact NB.out) Ar.in_whole) ?_) | ((with_reducible refine gate_store (t := 39) (p := 6) rfl ?_); refine Ar.gstore_event rfl rfl rfl (D := opG { o with f1 := wrap64 z }) (by simp only [opG, Array.size_append, Ar.cells_size, List.size_toArray, List.length_cons, List.length_nil]; kernel_rfl) (g := gr) rfl (by first | rfl | (go_simp; done) | (go_simp; rfl)) (by (with_reducible repeat (first | refine blk_drewN ?_ _ | refine blk_drew ?_ | refine blk_alloc ?_ _)); exact BR.out) (by simp [opZ, Ar.cells_size]) (by refine Ar.all_app ?_ (Ar.all_app (Ar.cells_one _ _ _) ?_) <;> simp [Value.oneCell']) ?_; intro wv hbk_ hg; have n0_ := Aside0.mk hbk_; have n1_ := Aside0.mk (Below.grown (by repeat (first | (with_reducible first | exact HB.out | apply below_alloc | apply pw_below_drewN | apply below_drew1) | exact HB.out)) hg (below_size (by repeat (first | (with_reducible first | exact HB.out | apply below_alloc | apply pw_below_drewN | apply below_drew1) | exact HB.out))) (fun _ e_ => by cases e_; exact GEBR.out)); clear BR HB hbk_ hg; have BR := n0_; have HB := n1_; clear n0_ n1_))
      refine bodyPost_ret (results_cell_row rfl _ _ gr 39 (opG { o with f1 := wrap64 z }) (0, 0) _ rfl BR.out Try.underlying39 rfl (by simp only [opG, Array.size_append, Ar.cells_size, List.size_toArray, List.length_cons, List.length_nil]; kernel_rfl)) rfl ?_
      exact ⟨rfl, HB.out⟩
    · rw [if_neg hn] at h
      exact absurd h (by simp)
  rw [if_neg c119] at h
  have c119b : (a1 == 119) = false := by simpa using c119
  clear c119
  by_cases c110 : a1 = 110
  · rw [if_pos c110] at h
    have c110b : (a1 == 110) = true := by simpa using c110
    by_cases hn : 4 ≤ l2.length
    · rw [if_pos hn] at h
      obtain ⟨z, hz, h⟩ := Option.bind_eq_some_iff.mp h
      obtain rfl := Option.some.inj h
      have HZ := Aside0.mk hz
      have hat : ∀ j : Nat, j < 4 → ∃ ad, A2 = some ad ∧ w.cell? (ad.add j) = some (.int .u8 (rd l2 (j : Int))) := fun j hj => by
        obtain ⟨ad, e, hx⟩ := Kd.at_int HR.out (j : Int) (by omega) (by omega)
        rw [Int.toNat_natCast] at hx
        exact ⟨ad, e, hx⟩
      obtain ⟨ad, rfl, hx0⟩ := hat 0 (by omega)
      rw [Addr.add_zero'] at hx0
      have HX0 := Aside0.mk hx0
      have HX : Aside0 (∀ j : Nat, j < 4 → w.cell? (ad.add j) = some (.int .u8 (rd l2 (j : Int)))) := ⟨fun j hj => by
        obtain ⟨ad2, e2, hx⟩ := hat j hj
        cases e2
        exact hx⟩
      have q0 := eq_true (show ((0 : Int) < (l2.length : Int)) by omega)
      have r0 := eq_true (show (0 < l2.length) by omega)
      have q1 := eq_true (show ((1 : Int) < (l2.length : Int)) by omega)
      have r1 := eq_true (show (1 < l2.length) by omega)
      have q2 := eq_true (show ((2 : Int) < (l2.length : Int)) by omega)
      have r2 := eq_true (show (2 < l2.length) by omega)
      have q3 := eq_true (show ((3 : Int) < (l2.length : Int)) by omega)
      have r3 := eq_true (show (3 < l2.length) by omega)
      clear c110
      clear hat hx0 hz hn
      go_enter Try.func21, Try.ntmps21
      go_wp2_with (first | ((with_reducible refine gate_dst (N := 3) rfl ?_); refine box_event ?hg (N := 3) ?hd (cs := opG o) (t := 39) ?hr ?_; (case hd => rfl); (case hg => rfl); (case hr => exact Ar.gbox_run rfl rfl); intro gb hg wx hbox hb; have n0_ := Aside0.mk (below_step (by repeat (first | (with_reducible first | exact HB.out | apply below_alloc | apply pw_below_drewN | apply below_drew1) | exact HB.out)) hb); have n1_ := Aside0.mk (hbox); have n2_ := Aside0.mk ((by rw [hg]; exact below_size (by repeat (first | (with_reducible first | exact HB.out | apply below_alloc | apply pw_below_drewN | apply below_drew1) | exact HB.out)) : w.heap.size ≤ gb)); clear HB; have HB := n0_; have BO := n1_; have GEBO := n2_; clear n0_ n1_ n2_; clear hb hbox hg) | ((with_reducible refine gate_dst (N := 6) rfl ?_); refine box_event ?hg (N := 6) ?hd (cs := opZ) (t := 39) ?hr ?_; (case hd => rfl); (case hg => rfl); (case hr => exact Ar.galloc_run rfl (by kernel_rfl)); intro gr hg wx hbox hb; have n0_ := Aside0.mk (below_step (by repeat (first | (with_reducible first | exact HB.out | apply below_alloc | apply pw_below_drewN | apply below_drew1) | exact HB.out)) hb); have n1_ := Aside0.mk (blk_below (g := gb) (o := .cells (opG o) 39 (0, 0)) (by (with_reducible repeat (first | refine blk_drewN ?_ _ | refine blk_drew ?_ | refine blk_alloc ?_ _)); exact BO.out) hb); have n2_ := Aside0.mk (hbox); have n3_ := Aside0.mk ((by rw [hg]; exact below_size (by repeat (first | (with_reducible first | exact HB.out | apply below_alloc | apply pw_below_drewN | apply below_drew1) | exact HB.out)) : w.heap.size ≤ gr)); have m0_ := Aside0.mk (by rw [hg]; exact Nat.ne_of_lt (blk_lt (g := gb) (o := .cells (opG o) 39 (0, 0)) (by (with_reducible repeat (first | refine blk_drewN ?_ _ | refine blk_drew ?_ | refine blk_alloc ?_ _)); exact BO.out)) : gb ≠ gr); clear HB BO; have HB := n0_; have BO := n1_; have BR := n2_; have GEBR := n3_; clear n0_ n1_ n2_ n3_; have NE := m0_; clear hb hbox hg m0_))
      have n0_ := Aside0.mk (below_drew1 HB.out)
      have n1_ := Aside0.mk (blk_drew BO.out)
      have n2_ := Aside0.mk (blk_drew BR.out)
      clear HB BR
      have HB := n0_
      have BR := n2_
      clear n0_ n1_ n2_
      refine start_ (n := 17) (S := fun w' => w'.cell? ad = some (.int .u8 (rd l2 0)) ∧ w'.cell? (⟨ad.block, ad.off + 1, none⟩ : Addr) = some (.int .u8 (rd l2 1)) ∧ w'.cell? (⟨ad.block, ad.off + 2, none⟩ : Addr) = some (.int .u8 (rd l2 2)) ∧ w'.cell? (⟨ad.block, ad.off + 3, none⟩ : Addr) = some (.int .u8 (rd l2 3)) ∧ w'.heap[gb]? = some (.cells (opG o) 39 (0, 0))) (ds := [16]) #[false, false, false, false, false, false, false, false, false, false, false, false, false, false, false, false, false] (by kernel_rfl) rfl rfl ⟨(HB.out.cell (World.block_lt_of_cell? w _ HX0.out)).trans HX0.out, (HB.out.cell (World.block_lt_of_cell? w _ (HX.out 1 (by omega)))).trans (HX.out 1 (by omega)), (HB.out.cell (World.block_lt_of_cell? w _ (HX.out 2 (by omega)))).trans (HX.out 2 (by omega)), (HB.out.cell (World.block_lt_of_cell? w _ (HX.out 3 (by omega)))).trans (HX.out 3 (by omega)), blk_drew BO.out⟩ (fun hHeld => ?_)
      refine pure_ (i := 0) (N := some 29) (v := ?_) (a' := ?_) #[true, false, false, false, false, false, false, false, false, false, false, false, false, false, false, false, false] rfl rfl (by kernel_rfl) (fun _ _ _ h => h) (Or.inl ⟨by rfl, ?_⟩) ?_ ?_
      rotate_left
      · intro w'
        go_simp
        with_reducible rfl
      rotate_left
      · simp only [Act.put, List.setIfInBounds_toArray, List.set_cons_zero, List.set_cons_succ, i64_w, i32_w]
        rfl
      refine pure_ (i := 1) (N := some 30) (v := ?_) (a' := ?_) #[true, true, false, false, false, false, false, false, false, false, false, false, false, false, false, false, false] rfl rfl (by kernel_rfl) (fun _ _ _ h => h) (Or.inl ⟨by rfl, ?_⟩) ?_ ?_
      rotate_left
      · intro w'
        go_simp
        with_reducible rfl
      rotate_left
      · simp only [Act.put, List.setIfInBounds_toArray, List.set_cons_zero, List.set_cons_succ, i64_w, i32_w]
        rfl
      refine pure_ (i := 3) (N := some 32) (v := ?_) (a' := ?_) #[true, true, false, true, false, false, false, false, false, false, false, false, false, false, false, false, false] rfl rfl (by kernel_rfl) (fun _ _ _ h => h) (Or.inl ⟨by rfl, ?_⟩) ?_ ?_
      rotate_left
      · intro w'
        go_simp
        with_reducible rfl
      rotate_left
      · simp only [Act.put, List.setIfInBounds_toArray, List.set_cons_zero, List.set_cons_succ, i64_w, i32_w]
        rfl
      refine pure_ (i := 4) (N := some 33) (v := ?_) (a' := ?_) #[true, true, false, true, true, false, false, false, false, false, false, false, false, false, false, false, false] rfl rfl (by kernel_rfl) (fun _ _ _ h => h) (Or.inl ⟨by rfl, ?_⟩) ?_ ?_
      rotate_left
      · intro w'
        go_simp
        with_reducible rfl
      rotate_left
      · simp only [Act.put, List.setIfInBounds_toArray, List.set_cons_zero, List.set_cons_succ, i64_w, i32_w]
        rfl
      refine pure_ (i := 6) (N := some 35) (v := ?_) (a' := ?_) #[true, true, false, true, true, false, true, false, false, false, false, false, false, false, false, false, false] rfl rfl (by kernel_rfl) (fun _ _ _ h => h) (Or.inl ⟨by rfl, ?_⟩) ?_ ?_
      rotate_left
      · intro w'
        go_simp
        with_reducible rfl
      rotate_left
      · simp only [Act.put, List.setIfInBounds_toArray, List.set_cons_zero, List.set_cons_succ, i64_w, i32_w]
        rfl
      refine pure_ (i := 7) (N := some 36) (v := ?_) (a' := ?_) #[true, true, false, true, true, false, true, true, false, false, false, false, false, false, false, false, false] rfl rfl (by kernel_rfl) (fun _ _ _ h => h) (Or.inl ⟨by rfl, ?_⟩) ?_ ?_
      rotate_left
      · intro w'
        go_simp
        with_reducible rfl
      rotate_left
      · simp only [Act.put, List.setIfInBounds_toArray, List.set_cons_zero, List.set_cons_succ, i64_w, i32_w]
        rfl
      refine pure_ (i := 9) (N := some 38) (v := ?_) (a' := ?_) #[true, true, false, true, true, false, true, true, false, true, false, false, false, false, false, false, false] rfl rfl (by kernel_rfl) (fun _ _ _ h => h) (Or.inl ⟨by rfl, ?_⟩) ?_ ?_
      rotate_left
      · intro w'
        go_simp
        with_reducible rfl
      rotate_left
      · simp only [Act.put, List.setIfInBounds_toArray, List.set_cons_zero, List.set_cons_succ, i64_w, i32_w]
        rfl
      refine pure_ (i := 10) (N := some 39) (v := ?_) (a' := ?_) #[true, true, false, true, true, false, true, true, false, true, true, false, false, false, false, false, false] rfl rfl (by kernel_rfl) (fun _ _ _ h => h) (Or.inl ⟨by rfl, ?_⟩) ?_ ?_
      rotate_left
      · intro w'
        go_simp
        with_reducible rfl
      rotate_left
      · simp only [Act.put, List.setIfInBounds_toArray, List.set_cons_zero, List.set_cons_succ, i64_w, i32_w]
        rfl
      refine take_ (i := 2) (N := some 31) (v := ?_) (a' := ?_) #[true, true, true, true, true, false, true, true, false, true, true, false, false, false, false, false, false] rfl rfl (by kernel_rfl) (fun _ _ _ h => h) (Or.inl ⟨by rfl, ?_⟩) hHeld ?_ ?_
      rotate_left
      · rintro w' ⟨s0, s1, s2, s3, s4⟩
        go_simp
        with_reducible rfl
      rotate_left
      · simp only [Act.put, List.setIfInBounds_toArray, List.set_cons_zero, List.set_cons_succ, i64_w, i32_w]
        rfl
      refine take_ (i := 5) (N := some 34) (v := ?_) (a' := ?_) #[true, true, true, true, true, true, true, true, false, true, true, false, false, false, false, false, false] rfl rfl (by kernel_rfl) (fun _ _ _ h => h) (Or.inl ⟨by rfl, ?_⟩) hHeld ?_ ?_
      rotate_left
      · rintro w' ⟨s0, s1, s2, s3, s4⟩
        go_simp
        with_reducible rfl
      rotate_left
      · simp only [Act.put, List.setIfInBounds_toArray, List.set_cons_zero, List.set_cons_succ, i64_w, i32_w]
        rfl
      refine take_ (i := 8) (N := some 37) (v := ?_) (a' := ?_) #[true, true, true, true, true, true, true, true, true, true, true, false, false, false, false, false, false] rfl rfl (by kernel_rfl) (fun _ _ _ h => h) (Or.inl ⟨by rfl, ?_⟩) hHeld ?_ ?_
      rotate_left
      · rintro w' ⟨s0, s1, s2, s3, s4⟩
        go_simp
        with_reducible rfl
      rotate_left
      · simp only [Act.put, List.setIfInBounds_toArray, List.set_cons_zero, List.set_cons_succ, i64_w, i32_w]
        rfl
      refine take_ (i := 11) (N := some 40) (v := ?_) (a' := ?_) #[true, true, true, true, true, true, true, true, true, true, true, true, false, false, false, false, false] rfl rfl (by kernel_rfl) (fun _ _ _ h => h) (Or.inl ⟨by rfl, ?_⟩) hHeld ?_ ?_
      rotate_left
      · rintro w' ⟨s0, s1, s2, s3, s4⟩
        go_simp
        with_reducible rfl
      rotate_left
      · simp only [Act.put, List.setIfInBounds_toArray, List.set_cons_zero, List.set_cons_succ, i64_w, i32_w]
        rfl
      refine pure_ (i := 12) (N := some 41) (v := ?_) (a' := ?_) #[true, true, true, true, true, true, true, true, true, true, true, true, true, false, false, false, false] rfl rfl (by kernel_rfl) (fun _ _ _ h => h) (Or.inl ⟨by rfl, ?_⟩) ?_ ?_
      rotate_left
      · intro w'
        refine (Ar.build_run rfl (T := 60) (k := .u8) (n := 4) (l := [rd l2 0, rd l2 1, rd l2 2, rd l2 3]) Try.underlying60 (by kernel_rfl) (by kernel_rfl) [(0, rd l2 0), (1, rd l2 1), (2, rd l2 2), (3, rd l2 3)] (by rfl) (by rfl) (by rfl)).trans ?_; with_reducible rfl
      rotate_left
      · simp only [Act.put, List.setIfInBounds_toArray, List.set_cons_zero, List.set_cons_succ, i64_w, i32_w]
        rfl
      refine one_ (i := 13) (N := some 42) #[true, true, true, true, true, true, true, true, true, true, true, true, true, true, false, false, false] rfl rfl (by kernel_rfl) (by decide) (fun K hK => ?_)
      refine goes_ Try.func29 (by kernel_rfl) rfl #[.agg (Ar.cells .u8 4 [rd l2 0, rd l2 1, rd l2 2, rd l2 3])] (by rfl) rfl rfl (by simp only [List.map_toArray, List.map_cons, List.map_nil]; rfl) ?_
      with_reducible refine (drawlotref01_Get32.calls k [rd l2 0, rd l2 1, rd l2 2, rd l2 3] z _ HZ.out).mono ?_
      rintro e wy ⟨rfl, hb⟩
      refine ⟨_, rfl, ?_⟩
      have n0_ := Aside0.mk (below_step (by repeat (first | (with_reducible first | exact HB.out | apply below_alloc | apply pw_below_drewN | apply below_drew1) | exact HB.out)) hb)
      have n1_ := Aside0.mk (blk_below (g := gr) (o := .cells opZ 39 (0, 0)) (by (with_reducible repeat (first | refine blk_drewN ?_ _ | refine blk_drew ?_ | refine blk_alloc ?_ _)); exact BR.out) hb)
      clear HB BR
      have HB := n0_
      have BR := n1_
      clear n0_ n1_
      refine hK.out _ _ ⟨(hb.cell (World.block_lt_of_cell? _ _ (hHeld.1))).trans (hHeld.1), (hb.cell (World.block_lt_of_cell? _ _ (hHeld.2.1))).trans (hHeld.2.1), (hb.cell (World.block_lt_of_cell? _ _ (hHeld.2.2.1))).trans (hHeld.2.2.1), (hb.cell (World.block_lt_of_cell? _ _ (hHeld.2.2.2.1))).trans (hHeld.2.2.2.1), blk_below (g := gb) (o := .cells (opG o) 39 (0, 0)) (hHeld.2.2.2.2) hb⟩ (fun hHeld => ?_)
      clear hK K
      refine norm_ (a' := ?_) ?_ ?_
      rotate_left
      · show Act.put _ (some 42) _ = _
        simp only [Act.put, List.setIfInBounds_toArray, List.set_cons_zero, List.set_cons_succ, i64_w, i32_w]
        rfl
      refine pure_ (i := 14) (N := some 43) (v := ?_) (a' := ?_) #[true, true, true, true, true, true, true, true, true, true, true, true, true, true, true, false, false] rfl rfl (by kernel_rfl) (fun _ _ _ h => h) (Or.inl ⟨by rfl, ?_⟩) ?_ ?_
      rotate_left
      · intro w'
        go_simp
        with_reducible rfl
      rotate_left
      · simp only [Act.put, List.setIfInBounds_toArray, List.set_cons_zero, List.set_cons_succ, i64_w, i32_w]
        rfl
      refine pure_ (i := 15) (N := some 44) (v := ?_) (a' := ?_) #[true, true, true, true, true, true, true, true, true, true, true, true, true, true, true, true, false] rfl rfl (by kernel_rfl) (fun _ _ _ h => h) (Or.inl ⟨by rfl, ?_⟩) ?_ ?_
      rotate_left
      · intro w'
        go_simp
        with_reducible rfl
      rotate_left
      · simp only [Act.put, List.setIfInBounds_toArray, List.set_cons_zero, List.set_cons_succ, i64_w, i32_w]
        rfl
      refine last_ (i := 16) (N := none) #[true, true, true, true, true, true, true, true, true, true, true, true, true, true, true, true, true] rfl rfl (by kernel_rfl) (by decide) (fun K hK => ?_)
      refine skip_ (by rfl) rfl (Ar.cstore_run rfl (by kernel_rfl) (g := gb) (c := 35) rfl (by first | rfl | (go_simp; done) | (go_simp; rfl)) (hHeld.2.2.2.2) (opG_35 o)) ?_
      obtain ⟨NB0, NG0⟩ := Ar.cstore_after (k := .i64) (c := 35) (z := wrap64 z) (hHeld.2.2.2.2)
      generalize hq_ : World.setCell wy ⟨gb, 35, none⟩ (.int .i64 (wrap64 z)) = wz at NB0 NG0 ⊢
      rw [opG_set35] at NB0
      have n0_ := Aside0.mk (Below.grown (by repeat (first | (with_reducible first | exact HB.out | apply below_alloc | apply pw_below_drewN | apply below_drew1) | exact HB.out)) NG0 (below_size (by repeat (first | (with_reducible first | exact HB.out | apply below_alloc | apply pw_below_drewN | apply below_drew1) | exact HB.out))) (fun _ e_ => by cases e_; exact GEBO.out))
      have n1_ := Aside0.mk (blk_grown (g := gr) (o := .cells opZ 39 (0, 0)) (by (with_reducible repeat (first | refine blk_drewN ?_ _ | refine blk_drew ?_ | refine blk_alloc ?_ _)); exact BR.out) NG0 (fun e_ => NE.out (Option.some.inj e_).symm))
      have n2_ := Aside0.mk NB0
      clear HB BR NB0 NG0 hq_
      have HB := n0_
      have BR := n1_
      have NB := n2_
      clear n0_ n1_ n2_
      refine hK.out _ _ ?_
      clear hK K
      refine done_ (by kernel_rfl) ?_
      go_wp2_with (first | ((with_reducible refine gate_dst (N := 87) rfl ?_); refine Ar.gload_event rfl (T := 39) rfl Try.underlying39 rfl (D := opG { o with f4 := wrap64 z }) (by simp only [opG, Array.size_append, Ar.cells_size, List.size_toArray, List.length_cons, List.length_nil]; kernel_rfl) (A := ⟨gb, 0, none⟩) rfl (Ar.blk_part (by (with_reducible repeat (first | refine blk_drewN ?_ _ | refine blk_drew ?_ | refine blk_alloc ?_ _)); exact NB.out) Ar.in_whole) ?_) | ((with_reducible refine gate_store (t := 39) (p := 6) rfl ?_); refine Ar.gstore_event rfl rfl rfl (D := opG { o with f4 := wrap64 z }) (by simp only [opG, Array.size_append, Ar.cells_size, List.size_toArray, List.length_cons, List.length_nil]; kernel_rfl) (g := gr) rfl (by first | rfl | (go_simp; done) | (go_simp; rfl)) (by (with_reducible repeat (first | refine blk_drewN ?_ _ | refine blk_drew ?_ | refine blk_alloc ?_ _)); exact BR.out) (by simp [opZ, Ar.cells_size]) (by refine Ar.all_app ?_ (Ar.all_app (Ar.cells_one _ _ _) ?_) <;> simp [Value.oneCell']) ?_; intro wv hbk_ hg; have n0_ := Aside0.mk hbk_; have n1_ := Aside0.mk (Below.grown (by repeat (first | (with_reducible first | exact HB.out | apply below_alloc | apply pw_below_drewN | apply below_drew1) | exact HB.out)) hg (below_size (by repeat (first | (with_reducible first | exact HB.out | apply below_alloc | apply pw_below_drewN | apply below_drew1) | exact HB.out))) (fun _ e_ => by cases e_; exact GEBR.out)); clear BR HB hbk_ hg; have BR := n0_; have HB := n1_; clear n0_ n1_))
      refine bodyPost_ret (results_cell_row rfl _ _ gr 39 (opG { o with f4 := wrap64 z }) (0, 0) _ rfl BR.out Try.underlying39 rfl (by simp only [opG, Array.size_append, Ar.cells_size, List.size_toArray, List.length_cons, List.length_nil]; kernel_rfl)) rfl ?_
      exact ⟨rfl, HB.out⟩
    · rw [if_neg hn] at h
      exact absurd h (by simp)
  rw [if_neg c110] at h
  have c110b : (a1 == 110) = false := by simpa using c110
  clear c110
  by_cases c97 : a1 = 97
  · rw [if_pos c97] at h
    have c97b : (a1 == 97) = true := by simpa using c97
    by_cases hn : 8 ≤ l2.length
    · rw [if_pos hn] at h
      obtain ⟨z, hz, h⟩ := Option.bind_eq_some_iff.mp h
      obtain rfl := Option.some.inj h
      have HZ := Aside0.mk hz
      have hat : ∀ j : Nat, j < 8 → ∃ ad, A2 = some ad ∧ w.cell? (ad.add j) = some (.int .u8 (rd l2 (j : Int))) := fun j hj => by
        obtain ⟨ad, e, hx⟩ := Kd.at_int HR.out (j : Int) (by omega) (by omega)
        rw [Int.toNat_natCast] at hx
        exact ⟨ad, e, hx⟩
      obtain ⟨ad, rfl, hx0⟩ := hat 0 (by omega)
      rw [Addr.add_zero'] at hx0
      have HX0 := Aside0.mk hx0
      have HX : Aside0 (∀ j : Nat, j < 8 → w.cell? (ad.add j) = some (.int .u8 (rd l2 (j : Int)))) := ⟨fun j hj => by
        obtain ⟨ad2, e2, hx⟩ := hat j hj
        cases e2
        exact hx⟩
      have q0 := eq_true (show ((0 : Int) < (l2.length : Int)) by omega)
      have r0 := eq_true (show (0 < l2.length) by omega)
      have q1 := eq_true (show ((1 : Int) < (l2.length : Int)) by omega)
      have r1 := eq_true (show (1 < l2.length) by omega)
      have q2 := eq_true (show ((2 : Int) < (l2.length : Int)) by omega)
      have r2 := eq_true (show (2 < l2.length) by omega)
      have q3 := eq_true (show ((3 : Int) < (l2.length : Int)) by omega)
      have r3 := eq_true (show (3 < l2.length) by omega)
      have q4 := eq_true (show ((4 : Int) < (l2.length : Int)) by omega)
      have r4 := eq_true (show (4 < l2.length) by omega)
      have q5 := eq_true (show ((5 : Int) < (l2.length : Int)) by omega)
      have r5 := eq_true (show (5 < l2.length) by omega)
      have q6 := eq_true (show ((6 : Int) < (l2.length : Int)) by omega)
      have r6 := eq_true (show (6 < l2.length) by omega)
      have q7 := eq_true (show ((7 : Int) < (l2.length : Int)) by omega)
      have r7 := eq_true (show (7 < l2.length) by omega)
      clear c97
      clear hat hx0 hz hn
      go_enter Try.func21, Try.ntmps21
      go_wp2_with (first | ((with_reducible refine gate_dst (N := 3) rfl ?_); refine box_event ?hg (N := 3) ?hd (cs := opG o) (t := 39) ?hr ?_; (case hd => rfl); (case hg => rfl); (case hr => exact Ar.gbox_run rfl rfl); intro gb hg wx hbox hb; have n0_ := Aside0.mk (below_step (by repeat (first | (with_reducible first | exact HB.out | apply below_alloc | apply pw_below_drewN | apply below_drew1) | exact HB.out)) hb); have n1_ := Aside0.mk (hbox); have n2_ := Aside0.mk ((by rw [hg]; exact below_size (by repeat (first | (with_reducible first | exact HB.out | apply below_alloc | apply pw_below_drewN | apply below_drew1) | exact HB.out)) : w.heap.size ≤ gb)); clear HB; have HB := n0_; have BO := n1_; have GEBO := n2_; clear n0_ n1_ n2_; clear hb hbox hg) | ((with_reducible refine gate_dst (N := 6) rfl ?_); refine box_event ?hg (N := 6) ?hd (cs := opZ) (t := 39) ?hr ?_; (case hd => rfl); (case hg => rfl); (case hr => exact Ar.galloc_run rfl (by kernel_rfl)); intro gr hg wx hbox hb; have n0_ := Aside0.mk (below_step (by repeat (first | (with_reducible first | exact HB.out | apply below_alloc | apply pw_below_drewN | apply below_drew1) | exact HB.out)) hb); have n1_ := Aside0.mk (blk_below (g := gb) (o := .cells (opG o) 39 (0, 0)) (by (with_reducible repeat (first | refine blk_drewN ?_ _ | refine blk_drew ?_ | refine blk_alloc ?_ _)); exact BO.out) hb); have n2_ := Aside0.mk (hbox); have n3_ := Aside0.mk ((by rw [hg]; exact below_size (by repeat (first | (with_reducible first | exact HB.out | apply below_alloc | apply pw_below_drewN | apply below_drew1) | exact HB.out)) : w.heap.size ≤ gr)); have m0_ := Aside0.mk (by rw [hg]; exact Nat.ne_of_lt (blk_lt (g := gb) (o := .cells (opG o) 39 (0, 0)) (by (with_reducible repeat (first | refine blk_drewN ?_ _ | refine blk_drew ?_ | refine blk_alloc ?_ _)); exact BO.out)) : gb ≠ gr); clear HB BO; have HB := n0_; have BO := n1_; have BR := n2_; have GEBR := n3_; clear n0_ n1_ n2_ n3_; have NE := m0_; clear hb hbox hg m0_))
      have n0_ := Aside0.mk (below_drew1 HB.out)
      have n1_ := Aside0.mk (blk_drew BO.out)
      have n2_ := Aside0.mk (blk_drew BR.out)
      clear HB BR
      have HB := n0_
      have BR := n2_
      clear n0_ n1_ n2_
      refine start_ (n := 28) (S := fun w' => w'.cell? ad = some (.int .u8 (rd l2 0)) ∧ w'.cell? (⟨ad.block, ad.off + 1, none⟩ : Addr) = some (.int .u8 (rd l2 1)) ∧ w'.cell? (⟨ad.block, ad.off + 2, none⟩ : Addr) = some (.int .u8 (rd l2 2)) ∧ w'.cell? (⟨ad.block, ad.off + 3, none⟩ : Addr) = some (.int .u8 (rd l2 3)) ∧ w'.cell? (⟨ad.block, ad.off + 4, none⟩ : Addr) = some (.int .u8 (rd l2 4)) ∧ w'.cell? (⟨ad.block, ad.off + 5, none⟩ : Addr) = some (.int .u8 (rd l2 5)) ∧ w'.cell? (⟨ad.block, ad.off + 6, none⟩ : Addr) = some (.int .u8 (rd l2 6)) ∧ w'.cell? (⟨ad.block, ad.off + 7, none⟩ : Addr) = some (.int .u8 (rd l2 7)) ∧ w'.heap[gb]? = some (.cells (opG o) 39 (0, 0))) (ds := [27]) #[false, false, false, false, false, false, false, false, false, false, false, false, false, false, false, false, false, false, false, false, false, false, false, false, false, false, false, false] (by kernel_rfl) rfl rfl ⟨(HB.out.cell (World.block_lt_of_cell? w _ HX0.out)).trans HX0.out, (HB.out.cell (World.block_lt_of_cell? w _ (HX.out 1 (by omega)))).trans (HX.out 1 (by omega)), (HB.out.cell (World.block_lt_of_cell? w _ (HX.out 2 (by omega)))).trans (HX.out 2 (by omega)), (HB.out.cell (World.block_lt_of_cell? w _ (HX.out 3 (by omega)))).trans (HX.out 3 (by omega)), (HB.out.cell (World.block_lt_of_cell? w _ (HX.out 4 (by omega)))).trans (HX.out 4 (by omega)), (HB.out.cell (World.block_lt_of_cell? w _ (HX.out 5 (by omega)))).trans (HX.out 5 (by omega)), (HB.out.cell (World.block_lt_of_cell? w _ (HX.out 6 (by omega)))).trans (HX.out 6 (by omega)), (HB.out.cell (World.block_lt_of_cell? w _ (HX.out 7 (by omega)))).trans (HX.out 7 (by omega)), blk_drew BO.out⟩ (fun hHeld => ?_)
      refine pure_ (i := 0) (N := some 47) (v := ?_) (a' := ?_) #[true, false, false, false, false, false, false, false, false, false, false, false, false, false, false, false, false, false, false, false, false, false, false, false, false, false, false, false] rfl rfl (by kernel_rfl) (fun _ _ _ h => h) (Or.inl ⟨by rfl, ?_⟩) ?_ ?_
      rotate_left
      · intro w'
        go_simp
        with_reducible rfl
      rotate_left
      · simp only [Act.put, List.setIfInBounds_toArray, List.set_cons_zero, List.set_cons_succ, i64_w, i32_w]
        rfl
      refine pure_ (i := 1) (N := some 48) (v := ?_) (a' := ?_) #[true, true, false, false, false, false, false, false, false, false, false, false, false, false, false, false, false, false, false, false, false, false, false, false, false, false, false, false] rfl rfl (by kernel_rfl) (fun _ _ _ h => h) (Or.inl ⟨by rfl, ?_⟩) ?_ ?_
      rotate_left
      · intro w'
        go_simp
        with_reducible rfl
      rotate_left
      · simp only [Act.put, List.setIfInBounds_toArray, List.set_cons_zero, List.set_cons_succ, i64_w, i32_w]
        rfl
      refine pure_ (i := 3) (N := some 50) (v := ?_) (a' := ?_) #[true, true, false, true, false, false, false, false, false, false, false, false, false, false, false, false, false, false, false, false, false, false, false, false, false, false, false, false] rfl rfl (by kernel_rfl) (fun _ _ _ h => h) (Or.inl ⟨by rfl, ?_⟩) ?_ ?_
      rotate_left
      · intro w'
        go_simp
        with_reducible rfl
      rotate_left
      · simp only [Act.put, List.setIfInBounds_toArray, List.set_cons_zero, List.set_cons_succ, i64_w, i32_w]
        rfl
      refine pure_ (i := 4) (N := some 51) (v := ?_) (a' := ?_) #[true, true, false, true, true, false, false, false, false, false, false, false, false, false, false, false, false, false, false, false, false, false, false, false, false, false, false, false] rfl rfl (by kernel_rfl) (fun _ _ _ h => h) (Or.inl ⟨by rfl, ?_⟩) ?_ ?_
      rotate_left
      · intro w'
        go_simp
        with_reducible rfl
      rotate_left
      · simp only [Act.put, List.setIfInBounds_toArray, List.set_cons_zero, List.set_cons_succ, i64_w, i32_w]
        rfl
      refine pure_ (i := 6) (N := some 53) (v := ?_) (a' := ?_) #[true, true, false, true, true, false, true, false, false, false, false, false, false, false, false, false, false, false, false, false, false, false, false, false, false, false, false, false] rfl rfl (by kernel_rfl) (fun _ _ _ h => h) (Or.inl ⟨by rfl, ?_⟩) ?_ ?_
      rotate_left
      · intro w'
        go_simp
        with_reducible rfl
      rotate_left
      · simp only [Act.put, List.setIfInBounds_toArray, List.set_cons_zero, List.set_cons_succ, i64_w, i32_w]
        rfl
      refine pure_ (i := 7) (N := some 54) (v := ?_) (a' := ?_) #[true, true, false, true, true, false, true, true, false, false, false, false, false, false, false, false, false, false, false, false, false, false, false, false, false, false, false, false] rfl rfl (by kernel_rfl) (fun _ _ _ h => h) (Or.inl ⟨by rfl, ?_⟩) ?_ ?_
      rotate_left
      · intro w'
        go_simp
        with_reducible rfl
      rotate_left
      · simp only [Act.put, List.setIfInBounds_toArray, List.set_cons_zero, List.set_cons_succ, i64_w, i32_w]
        rfl
      refine pure_ (i := 9) (N := some 56) (v := ?_) (a' := ?_) #[true, true, false, true, true, false, true, true, false, true, false, false, false, false, false, false, false, false, false, false, false, false, false, false, false, false, false, false] rfl rfl (by kernel_rfl) (fun _ _ _ h => h) (Or.inl ⟨by rfl, ?_⟩) ?_ ?_
      rotate_left
      · intro w'
        go_simp
        with_reducible rfl
      rotate_left
      · simp only [Act.put, List.setIfInBounds_toArray, List.set_cons_zero, List.set_cons_succ, i64_w, i32_w]
        rfl
      refine pure_ (i := 10) (N := some 57) (v := ?_) (a' := ?_) #[true, true, false, true, true, false, true, true, false, true, true, false, false, false, false, false, false, false, false, false, false, false, false, false, false, false, false, false] rfl rfl (by kernel_rfl) (fun _ _ _ h => h) (Or.inl ⟨by rfl, ?_⟩) ?_ ?_
      rotate_left
      · intro w'
        go_simp
        with_reducible rfl
      rotate_left
      · simp only [Act.put, List.setIfInBounds_toArray, List.set_cons_zero, List.set_cons_succ, i64_w, i32_w]
        rfl
      refine pure_ (i := 12) (N := some 59) (v := ?_) (a' := ?_) #[true, true, false, true, true, false, true, true, false, true, true, false, true, false, false, false, false, false, false, false, false, false, false, false, false, false, false, false] rfl rfl (by kernel_rfl) (fun _ _ _ h => h) (Or.inl ⟨by rfl, ?_⟩) ?_ ?_
      rotate_left
      · intro w'
        go_simp
        with_reducible rfl
      rotate_left
      · simp only [Act.put, List.setIfInBounds_toArray, List.set_cons_zero, List.set_cons_succ, i64_w, i32_w]
        rfl
      refine pure_ (i := 13) (N := some 60) (v := ?_) (a' := ?_) #[true, true, false, true, true, false, true, true, false, true, true, false, true, true, false, false, false, false, false, false, false, false, false, false, false, false, false, false] rfl rfl (by kernel_rfl) (fun _ _ _ h => h) (Or.inl ⟨by rfl, ?_⟩) ?_ ?_
      rotate_left
      · intro w'
        go_simp
        with_reducible rfl
      rotate_left
      · simp only [Act.put, List.setIfInBounds_toArray, List.set_cons_zero, List.set_cons_succ, i64_w, i32_w]
        rfl
      refine pure_ (i := 15) (N := some 62) (v := ?_) (a' := ?_) #[true, true, false, true, true, false, true, true, false, true, true, false, true, true, false, true, false, false, false, false, false, false, false, false, false, false, false, false] rfl rfl (by kernel_rfl) (fun _ _ _ h => h) (Or.inl ⟨by rfl, ?_⟩) ?_ ?_
      rotate_left
      · intro w'
        go_simp
        with_reducible rfl
      rotate_left
      · simp only [Act.put, List.setIfInBounds_toArray, List.set_cons_zero, List.set_cons_succ, i64_w, i32_w]
        rfl
      refine pure_ (i := 16) (N := some 63) (v := ?_) (a' := ?_) #[true, true, false, true, true, false, true, true, false, true, true, false, true, true, false, true, true, false, false, false, false, false, false, false, false, false, false, false] rfl rfl (by kernel_rfl) (fun _ _ _ h => h) (Or.inl ⟨by rfl, ?_⟩) ?_ ?_
      rotate_left
      · intro w'
        go_simp
        with_reducible rfl
      rotate_left
      · simp only [Act.put, List.setIfInBounds_toArray, List.set_cons_zero, List.set_cons_succ, i64_w, i32_w]
        rfl
      refine pure_ (i := 18) (N := some 65) (v := ?_) (a' := ?_) #[true, true, false, true, true, false, true, true, false, true, true, false, true, true, false, true, true, false, true, false, false, false, false, false, false, false, false, false] rfl rfl (by kernel_rfl) (fun _ _ _ h => h) (Or.inl ⟨by rfl, ?_⟩) ?_ ?_
      rotate_left
      · intro w'
        go_simp
        with_reducible rfl
      rotate_left
      · simp only [Act.put, List.setIfInBounds_toArray, List.set_cons_zero, List.set_cons_succ, i64_w, i32_w]
        rfl
      refine pure_ (i := 19) (N := some 66) (v := ?_) (a' := ?_) #[true, true, false, true, true, false, true, true, false, true, true, false, true, true, false, true, true, false, true, true, false, false, false, false, false, false, false, false] rfl rfl (by kernel_rfl) (fun _ _ _ h => h) (Or.inl ⟨by rfl, ?_⟩) ?_ ?_
      rotate_left
      · intro w'
        go_simp
        with_reducible rfl
      rotate_left
      · simp only [Act.put, List.setIfInBounds_toArray, List.set_cons_zero, List.set_cons_succ, i64_w, i32_w]
        rfl
      refine pure_ (i := 21) (N := some 68) (v := ?_) (a' := ?_) #[true, true, false, true, true, false, true, true, false, true, true, false, true, true, false, true, true, false, true, true, false, true, false, false, false, false, false, false] rfl rfl (by kernel_rfl) (fun _ _ _ h => h) (Or.inl ⟨by rfl, ?_⟩) ?_ ?_
      rotate_left
      · intro w'
        go_simp
        with_reducible rfl
      rotate_left
      · simp only [Act.put, List.setIfInBounds_toArray, List.set_cons_zero, List.set_cons_succ, i64_w, i32_w]
        rfl
      refine pure_ (i := 22) (N := some 69) (v := ?_) (a' := ?_) #[true, true, false, true, true, false, true, true, false, true, true, false, true, true, false, true, true, false, true, true, false, true, true, false, false, false, false, false] rfl rfl (by kernel_rfl) (fun _ _ _ h => h) (Or.inl ⟨by rfl, ?_⟩) ?_ ?_
      rotate_left
      · intro w'
        go_simp
        with_reducible rfl
      rotate_left
      · simp only [Act.put, List.setIfInBounds_toArray, List.set_cons_zero, List.set_cons_succ, i64_w, i32_w]
        rfl
      refine take_ (i := 2) (N := some 49) (v := ?_) (a' := ?_) #[true, true, true, true, true, false, true, true, false, true, true, false, true, true, false, true, true, false, true, true, false, true, true, false, false, false, false, false] rfl rfl (by kernel_rfl) (fun _ _ _ h => h) (Or.inl ⟨by rfl, ?_⟩) hHeld ?_ ?_
      rotate_left
      · rintro w' ⟨s0, s1, s2, s3, s4, s5, s6, s7, s8⟩
        go_simp
        with_reducible rfl
      rotate_left
      · simp only [Act.put, List.setIfInBounds_toArray, List.set_cons_zero, List.set_cons_succ, i64_w, i32_w]
        rfl
      refine take_ (i := 5) (N := some 52) (v := ?_) (a' := ?_) #[true, true, true, true, true, true, true, true, false, true, true, false, true, true, false, true, true, false, true, true, false, true, true, false, false, false, false, false] rfl rfl (by kernel_rfl) (fun _ _ _ h => h) (Or.inl ⟨by rfl, ?_⟩) hHeld ?_ ?_
      rotate_left
      · rintro w' ⟨s0, s1, s2, s3, s4, s5, s6, s7, s8⟩
        go_simp
        with_reducible rfl
      rotate_left
      · simp only [Act.put, List.setIfInBounds_toArray, List.set_cons_zero, List.set_cons_succ, i64_w, i32_w]
        rfl
      refine take_ (i := 8) (N := some 55) (v := ?_) (a' := ?_) #[true, true, true, true, true, true, true, true, true, true, true, false, true, true, false, true, true, false, true, true, false, true, true, false, false, false, false, false] rfl rfl (by kernel_rfl) (fun _ _ _ h => h) (Or.inl ⟨by rfl, ?_⟩) hHeld ?_ ?_
      rotate_left
      · rintro w' ⟨s0, s1, s2, s3, s4, s5, s6, s7, s8⟩
        go_simp
        with_reducible rfl
      rotate_left
      · simp only [Act.put, List.setIfInBounds_toArray, List.set_cons_zero, List.set_cons_succ, i64_w, i32_w]
        rfl
      refine take_ (i := 11) (N := some 58) (v := ?_) (a' := ?_) #[true, true, true, true, true, true, true, true, true, true, true, true, true, true, false, true, true, false, true, true, false, true, true, false, false, false, false, false] rfl rfl (by kernel_rfl) (fun _ _ _ h => h) (Or.inl ⟨by rfl, ?_⟩) hHeld ?_ ?_
      rotate_left
      · rintro w' ⟨s0, s1, s2, s3, s4, s5, s6, s7, s8⟩
        go_simp
        with_reducible rfl
      rotate_left
      · simp only [Act.put, List.setIfInBounds_toArray, List.set_cons_zero, List.set_cons_succ, i64_w, i32_w]
        rfl
      refine take_ (i := 14) (N := some 61) (v := ?_) (a' := ?_) #[true, true, true, true, true, true, true, true, true, true, true, true, true, true, true, true, true, false, true, true, false, true, true, false, false, false, false, false] rfl rfl (by kernel_rfl) (fun _ _ _ h => h) (Or.inl ⟨by rfl, ?_⟩) hHeld ?_ ?_
      rotate_left
      · rintro w' ⟨s0, s1, s2, s3, s4, s5, s6, s7, s8⟩
        go_simp
        with_reducible rfl
      rotate_left
      · simp only [Act.put, List.setIfInBounds_toArray, List.set_cons_zero, List.set_cons_succ, i64_w, i32_w]
        rfl
      refine take_ (i := 17) (N := some 64) (v := ?_) (a' := ?_) #[true, true, true, true, true, true, true, true, true, true, true, true, true, true, true, true, true, true, true, true, false, true, true, false, false, false, false, false] rfl rfl (by kernel_rfl) (fun _ _ _ h => h) (Or.inl ⟨by rfl, ?_⟩) hHeld ?_ ?_
      rotate_left
      · rintro w' ⟨s0, s1, s2, s3, s4, s5, s6, s7, s8⟩
        go_simp
        with_reducible rfl
      rotate_left
      · simp only [Act.put, List.setIfInBounds_toArray, List.set_cons_zero, List.set_cons_succ, i64_w, i32_w]
        rfl
      refine take_ (i := 20) (N := some 67) (v := ?_) (a' := ?_) #[true, true, true, true, true, true, true, true, true, true, true, true, true, true, true, true, true, true, true, true, true, true, true, false, false, false, false, false] rfl rfl (by kernel_rfl) (fun _ _ _ h => h) (Or.inl ⟨by rfl, ?_⟩) hHeld ?_ ?_
      rotate_left
      · rintro w' ⟨s0, s1, s2, s3, s4, s5, s6, s7, s8⟩
        go_simp
        with_reducible rfl
      rotate_left
      · simp only [Act.put, List.setIfInBounds_toArray, List.set_cons_zero, List.set_cons_succ, i64_w, i32_w]
        rfl
      refine take_ (i := 23) (N := some 70) (v := ?_) (a' := ?_) #[true, true, true, true, true, true, true, true, true, true, true, true, true, true, true, true, true, true, true, true, true, true, true, true, false, false, false, false] rfl rfl (by kernel_rfl) (fun _ _ _ h => h) (Or.inl ⟨by rfl, ?_⟩) hHeld ?_ ?_
      rotate_left
      · rintro w' ⟨s0, s1, s2, s3, s4, s5, s6, s7, s8⟩
        go_simp
        with_reducible rfl
      rotate_left
      · simp only [Act.put, List.setIfInBounds_toArray, List.set_cons_zero, List.set_cons_succ, i64_w, i32_w]
        rfl
      refine pure_ (i := 24) (N := some 71) (v := ?_) (a' := ?_) #[true, true, true, true, true, true, true, true, true, true, true, true, true, true, true, true, true, true, true, true, true, true, true, true, true, false, false, false] rfl rfl (by kernel_rfl) (fun _ _ _ h => h) (Or.inl ⟨by rfl, ?_⟩) ?_ ?_
      rotate_left
      · intro w'
        refine (Ar.build_run rfl (T := 62) (k := .u8) (n := 8) (l := [rd l2 0, rd l2 1, rd l2 2, rd l2 3, rd l2 4, rd l2 5, rd l2 6, rd l2 7]) Try.underlying62 (by kernel_rfl) (by kernel_rfl) [(0, rd l2 0), (1, rd l2 1), (2, rd l2 2), (3, rd l2 3), (4, rd l2 4), (5, rd l2 5), (6, rd l2 6), (7, rd l2 7)] (by rfl) (by rfl) (by rfl)).trans ?_; with_reducible rfl
      rotate_left
      · simp only [Act.put, List.setIfInBounds_toArray, List.set_cons_zero, List.set_cons_succ, i64_w, i32_w]
        rfl
      refine one_ (i := 25) (N := some 72) #[true, true, true, true, true, true, true, true, true, true, true, true, true, true, true, true, true, true, true, true, true, true, true, true, true, true, false, false] rfl rfl (by kernel_rfl) (by decide) (fun K hK => ?_)
      refine goes_ Try.func30 (by kernel_rfl) rfl #[.agg (Ar.cells .u8 8 [rd l2 0, rd l2 1, rd l2 2, rd l2 3, rd l2 4, rd l2 5, rd l2 6, rd l2 7])] (by rfl) rfl rfl (by simp only [List.map_toArray, List.map_cons, List.map_nil]; rfl) ?_
      with_reducible refine (drawlotref01_Get64.calls k [rd l2 0, rd l2 1, rd l2 2, rd l2 3, rd l2 4, rd l2 5, rd l2 6, rd l2 7] z _ HZ.out).mono ?_
      rintro e wy ⟨rfl, hb⟩
      refine ⟨_, rfl, ?_⟩
      have n0_ := Aside0.mk (below_step (by repeat (first | (with_reducible first | exact HB.out | apply below_alloc | apply pw_below_drewN | apply below_drew1) | exact HB.out)) hb)
      have n1_ := Aside0.mk (blk_below (g := gr) (o := .cells opZ 39 (0, 0)) (by (with_reducible repeat (first | refine blk_drewN ?_ _ | refine blk_drew ?_ | refine blk_alloc ?_ _)); exact BR.out) hb)
      clear HB BR
      have HB := n0_
      have BR := n1_
      clear n0_ n1_
      refine hK.out _ _ ⟨(hb.cell (World.block_lt_of_cell? _ _ (hHeld.1))).trans (hHeld.1), (hb.cell (World.block_lt_of_cell? _ _ (hHeld.2.1))).trans (hHeld.2.1), (hb.cell (World.block_lt_of_cell? _ _ (hHeld.2.2.1))).trans (hHeld.2.2.1), (hb.cell (World.block_lt_of_cell? _ _ (hHeld.2.2.2.1))).trans (hHeld.2.2.2.1), (hb.cell (World.block_lt_of_cell? _ _ (hHeld.2.2.2.2.1))).trans (hHeld.2.2.2.2.1), (hb.cell (World.block_lt_of_cell? _ _ (hHeld.2.2.2.2.2.1))).trans (hHeld.2.2.2.2.2.1), (hb.cell (World.block_lt_of_cell? _ _ (hHeld.2.2.2.2.2.2.1))).trans (hHeld.2.2.2.2.2.2.1), (hb.cell (World.block_lt_of_cell? _ _ (hHeld.2.2.2.2.2.2.2.1))).trans (hHeld.2.2.2.2.2.2.2.1), blk_below (g := gb) (o := .cells (opG o) 39 (0, 0)) (hHeld.2.2.2.2.2.2.2.2) hb⟩ (fun hHeld => ?_)
      clear hK K
      refine norm_ (a' := ?_) ?_ ?_
      rotate_left
      · show Act.put _ (some 72) _ = _
        simp only [Act.put, List.setIfInBounds_toArray, List.set_cons_zero, List.set_cons_succ, i64_w, i32_w]
        rfl
      refine pure_ (i := 26) (N := some 73) (v := ?_) (a' := ?_) #[true, true, true, true, true, true, true, true, true, true, true, true, true, true, true, true, true, true, true, true, true, true, true, true, true, true, true, false] rfl rfl (by kernel_rfl) (fun _ _ _ h => h) (Or.inl ⟨by rfl, ?_⟩) ?_ ?_
      rotate_left
      · intro w'
        go_simp
        with_reducible rfl
      rotate_left
      · simp only [Act.put, List.setIfInBounds_toArray, List.set_cons_zero, List.set_cons_succ, i64_w, i32_w]
        rfl
      refine last_ (i := 27) (N := none) #[true, true, true, true, true, true, true, true, true, true, true, true, true, true, true, true, true, true, true, true, true, true, true, true, true, true, true, true] rfl rfl (by kernel_rfl) (by decide) (fun K hK => ?_)
      refine skip_ (by rfl) rfl (Ar.cstore_run rfl (by kernel_rfl) (g := gb) (c := 2) rfl (by first | rfl | (go_simp; done) | (go_simp; rfl)) (hHeld.2.2.2.2.2.2.2.2) (opG_2 o)) ?_
      obtain ⟨NB0, NG0⟩ := Ar.cstore_after (k := .u64) (c := 2) (z := z) (hHeld.2.2.2.2.2.2.2.2)
      generalize hq_ : World.setCell wy ⟨gb, 2, none⟩ (.int .u64 (z)) = wz at NB0 NG0 ⊢
      rw [opG_set2] at NB0
      have n0_ := Aside0.mk (Below.grown (by repeat (first | (with_reducible first | exact HB.out | apply below_alloc | apply pw_below_drewN | apply below_drew1) | exact HB.out)) NG0 (below_size (by repeat (first | (with_reducible first | exact HB.out | apply below_alloc | apply pw_below_drewN | apply below_drew1) | exact HB.out))) (fun _ e_ => by cases e_; exact GEBO.out))
      have n1_ := Aside0.mk (blk_grown (g := gr) (o := .cells opZ 39 (0, 0)) (by (with_reducible repeat (first | refine blk_drewN ?_ _ | refine blk_drew ?_ | refine blk_alloc ?_ _)); exact BR.out) NG0 (fun e_ => NE.out (Option.some.inj e_).symm))
      have n2_ := Aside0.mk NB0
      clear HB BR NB0 NG0 hq_
      have HB := n0_
      have BR := n1_
      have NB := n2_
      clear n0_ n1_ n2_
      refine hK.out _ _ ?_
      clear hK K
      refine done_ (by kernel_rfl) ?_
      go_wp2_with (first | ((with_reducible refine gate_dst (N := 87) rfl ?_); refine Ar.gload_event rfl (T := 39) rfl Try.underlying39 rfl (D := opG { o with f2 := z }) (by simp only [opG, Array.size_append, Ar.cells_size, List.size_toArray, List.length_cons, List.length_nil]; kernel_rfl) (A := ⟨gb, 0, none⟩) rfl (Ar.blk_part (by (with_reducible repeat (first | refine blk_drewN ?_ _ | refine blk_drew ?_ | refine blk_alloc ?_ _)); exact NB.out) Ar.in_whole) ?_) | ((with_reducible refine gate_store (t := 39) (p := 6) rfl ?_); refine Ar.gstore_event rfl rfl rfl (D := opG { o with f2 := z }) (by simp only [opG, Array.size_append, Ar.cells_size, List.size_toArray, List.length_cons, List.length_nil]; kernel_rfl) (g := gr) rfl (by first | rfl | (go_simp; done) | (go_simp; rfl)) (by (with_reducible repeat (first | refine blk_drewN ?_ _ | refine blk_drew ?_ | refine blk_alloc ?_ _)); exact BR.out) (by simp [opZ, Ar.cells_size]) (by refine Ar.all_app ?_ (Ar.all_app (Ar.cells_one _ _ _) ?_) <;> simp [Value.oneCell']) ?_; intro wv hbk_ hg; have n0_ := Aside0.mk hbk_; have n1_ := Aside0.mk (Below.grown (by repeat (first | (with_reducible first | exact HB.out | apply below_alloc | apply pw_below_drewN | apply below_drew1) | exact HB.out)) hg (below_size (by repeat (first | (with_reducible first | exact HB.out | apply below_alloc | apply pw_below_drewN | apply below_drew1) | exact HB.out))) (fun _ e_ => by cases e_; exact GEBR.out)); clear BR HB hbk_ hg; have BR := n0_; have HB := n1_; clear n0_ n1_))
      refine bodyPost_ret (results_cell_row rfl _ _ gr 39 (opG { o with f2 := z }) (0, 0) _ rfl BR.out Try.underlying39 rfl (by simp only [opG, Array.size_append, Ar.cells_size, List.size_toArray, List.length_cons, List.length_nil]; kernel_rfl)) rfl ?_
      exact ⟨rfl, HB.out⟩
    · rw [if_neg hn] at h
      exact absurd h (by simp)
  rw [if_neg c97] at h
  have c97b : (a1 == 97) = false := by simpa using c97
  clear c97
  by_cases c104 : a1 = 104
  · rw [if_pos c104] at h
    have c104b : (a1 == 104) = true := by simpa using c104
    clear c104
    by_cases hn : 32 ≤ l2.length
    · rw [if_pos hn] at h
      obtain rfl := Option.some.inj h
      have hat : ∀ j : Nat, j < 32 → ∃ ad, A2 = some ad ∧ w.cell? (ad.add j) = some (.int .u8 (rd l2 (j : Int))) := fun j hj => by
        obtain ⟨ad, e, hx⟩ := Kd.at_int HR.out (j : Int) (by omega) (by omega)
        rw [Int.toNat_natCast] at hx
        exact ⟨ad, e, hx⟩
      obtain ⟨ad, rfl, hx0⟩ := hat 0 (by omega)
      have HX : Aside0 (∀ j : Nat, j < 32 → w.cell? (ad.add j) = some (.int .u8 (rd l2 (j : Int)))) := ⟨fun j hj => by
        obtain ⟨ad2, e2, hx⟩ := hat j hj
        cases e2
        exact hx⟩
      have HN := Aside0.mk hn
      clear hat hx0 hn h
      go_enter Try.func21, Try.ntmps21
      go_wp2_with (first | ((with_reducible refine gate_dst (N := 3) rfl ?_); refine box_event ?hg (N := 3) ?hd (cs := opG o) (t := 39) ?hr ?_; (case hd => rfl); (case hg => rfl); (case hr => exact Ar.gbox_run rfl rfl); intro gb hg wx hbox hb; have n0_ := Aside0.mk (below_step (by repeat (first | (with_reducible first | exact HB.out | apply below_alloc | apply pw_below_drewN | apply below_drew1) | exact HB.out)) hb); have n1_ := Aside0.mk (hbox); have n2_ := Aside0.mk ((by rw [hg]; exact below_size (by repeat (first | (with_reducible first | exact HB.out | apply below_alloc | apply pw_below_drewN | apply below_drew1) | exact HB.out)) : w.heap.size ≤ gb)); clear HB; have HB := n0_; have BO := n1_; have GEBO := n2_; clear n0_ n1_ n2_; clear hb hbox hg) | ((with_reducible refine gate_dst (N := 6) rfl ?_); refine box_event ?hg (N := 6) ?hd (cs := opZ) (t := 39) ?hr ?_; (case hd => rfl); (case hg => rfl); (case hr => exact Ar.galloc_run rfl (by kernel_rfl)); intro gr hg wx hbox hb; have n0_ := Aside0.mk (below_step (by repeat (first | (with_reducible first | exact HB.out | apply below_alloc | apply pw_below_drewN | apply below_drew1) | exact HB.out)) hb); have n1_ := Aside0.mk (blk_below (g := gb) (o := .cells (opG o) 39 (0, 0)) (by (with_reducible repeat (first | refine blk_drewN ?_ _ | refine blk_drew ?_ | refine blk_alloc ?_ _)); exact BO.out) hb); have n2_ := Aside0.mk (hbox); have n3_ := Aside0.mk ((by rw [hg]; exact below_size (by repeat (first | (with_reducible first | exact HB.out | apply below_alloc | apply pw_below_drewN | apply below_drew1) | exact HB.out)) : w.heap.size ≤ gr)); have m0_ := Aside0.mk (by rw [hg]; exact Nat.ne_of_lt (blk_lt (g := gb) (o := .cells (opG o) 39 (0, 0)) (by (with_reducible repeat (first | refine blk_drewN ?_ _ | refine blk_drew ?_ | refine blk_alloc ?_ _)); exact BO.out)) : gb ≠ gr); clear HB BO; have HB := n0_; have BO := n1_; have BR := n2_; have GEBR := n3_; clear n0_ n1_ n2_ n3_; have NE := m0_; clear hb hbox hg m0_))
      go_loopg [7] 33 (fun kq v7 w' => ∃ (i : Nat) (L : List Int), v7 = .int .i64 (i : Int) ∧ Aside0 (kq + i = 33) ∧ Aside0 (∀ j : Nat, j < i → Ar.get 32 L j = rd l2 j) ∧ Aside0 (w'.heap[gr]? = some (.cells opZ 39 (0, 0))) ∧ Aside0 (w'.heap[gb]? = some (.cells (opG { o with f3 := L }) 39 (0, 0))) ∧ Aside0 (Below w.heap.size w w'))
      case atStart => exact ⟨0, o.f3, rfl, ⟨rfl⟩, ⟨fun j hj => absurd hj (by omega)⟩, BR, BO, HB⟩
      case round =>
        clear BR BO HB
        obtain ⟨i, L, rfl, HK, HG, BR, BO, HB⟩ := hrel
        by_cases c4 : i < 32
        · have C4 := Aside0.mk c4
          have hxi := (HB.out.cell (World.block_lt_of_cell? w _ (HX.out i c4))).trans (HX.out i c4)
          have c4b0 : decide ((i : Int) < 32) = true := decide_eq_true (by omega)
          have p1 := eq_true (show (0 : Int) ≤ (i : Int) by omega)
          have q1 := eq_true (show (i : Int) < (l2.length : Int) by have := HN.out; omega)
          have q2 := eq_true (show i < l2.length by have := HN.out; omega)
          have HI := Aside0.mk (show wrap64 ((i : Int) + 1) = ((i + 1 : Nat) : Int) by unfold wrap64; omega)
          clear c4
          go_wp2_with (first | ((with_reducible refine gate_dst (N := 86) rfl ?_); refine Ar.idxo_event rfl (T := 37) (E := 5) (n := 32) rfl Try.underlying37 (by kernel_rfl) (g := gb) (c := 3) (by first | rfl | (go_simp; done) | (go_simp; rfl)) (ki := .i64) (j := i) (by first | rfl | (go_simp; done) | (go_simp; rfl)) C4.out ?_) | ((with_reducible refine gate_store (t := 5) (p := 86) rfl ?_); refine Ar.cstore_event rfl (k := .u8) (c := 3 + i) rfl rfl (by kernel_rfl) (g := gb) (by first | rfl | (go_simp; done) | (go_simp; rfl)) (z := rd l2 (i : Int)) (by first | rfl | (go_simp; done) | (go_simp; rfl)) (by (with_reducible repeat (first | refine blk_drewN ?_ _ | refine blk_drew ?_ | refine blk_alloc ?_ _)); exact BO.out) (opG_atH _ i C4.out) ?_; intro wv hbk_ hg; rw [opG_setH _ i C4.out] at hbk_; have n0_ := Aside0.mk hbk_; have n1_ := Aside0.mk (Below.grown (by repeat (first | (with_reducible first | exact HB.out | apply below_alloc | apply pw_below_drewN | apply below_drew1) | exact HB.out)) hg (below_size (by repeat (first | (with_reducible first | exact HB.out | apply below_alloc | apply pw_below_drewN | apply below_drew1) | exact HB.out))) (fun _ e_ => by cases e_; exact GEBO.out)); have n2_ := Aside0.mk (blk_grown (g := gr) (o := .cells opZ 39 (0, 0)) (by (with_reducible repeat (first | refine blk_drewN ?_ _ | refine blk_drew ?_ | refine blk_alloc ?_ _)); exact BR.out) hg (fun e_ => NE.out (Option.some.inj e_).symm)); clear BO HB BR hbk_ hg; have BO := n0_; have HB := n1_; have BR := n2_; clear n0_ n1_ n2_))
          obtain ⟨k1, rfl⟩ : ∃ m, gk = m + 1 := ⟨gk - 1, by have := HK.out; have := C4.out; omega⟩
          go_roundg k1
          case measure => omega
          case rel => exact ⟨i + 1, _, by rw [HI.out], ⟨by have := HK.out; omega⟩, ⟨fun j hj => by
            by_cases e : i = j
            · subst e; exact get_set_eq _ _ C4.out _
            · rw [get_set_ne _ _ _ e]; exact HG.out j (by omega)⟩, BR, BO, HB⟩
        · have c4b0 : decide ((i : Int) < 32) = false := decide_eq_false (by omega)
          have e : opG { o with f3 := L } = opG { o with f3 := l2.take 32 } := by
            have e2 : Ar.cells .u8 32 L = Ar.cells .u8 32 (l2.take 32) := cells_of_get fun j hj => by
              rw [HG.out j (by omega)]
              unfold Ar.get
              rw [Ar.fit_id (by rw [List.length_take]; have := HN.out; omega)]
              simp [rd, hj]
            show #[.int .i64 o.f0, .int .i64 o.f1, .int .u64 o.f2] ++ (Ar.cells .u8 32 L ++ #[.int .i64 o.f4]) = _
            rw [e2]
          rw [e] at BO
          clear c4 e
          go_wp2_with (first | ((with_reducible refine gate_dst (N := 87) rfl ?_); refine Ar.gload_event rfl (T := 39) rfl Try.underlying39 rfl (D := opG { o with f3 := l2.take 32 }) (by simp only [opG, Array.size_append, Ar.cells_size, List.size_toArray, List.length_cons, List.length_nil]; kernel_rfl) (A := ⟨gb, 0, none⟩) rfl (Ar.blk_part (by (with_reducible repeat (first | refine blk_drewN ?_ _ | refine blk_drew ?_ | refine blk_alloc ?_ _)); exact BO.out) Ar.in_whole) ?_) | ((with_reducible refine gate_store (t := 39) (p := 6) rfl ?_); refine Ar.gstore_event rfl rfl rfl (D := opG { o with f3 := l2.take 32 }) (by simp only [opG, Array.size_append, Ar.cells_size, List.size_toArray, List.length_cons, List.length_nil]; kernel_rfl) (g := gr) rfl (by first | rfl | (go_simp; done) | (go_simp; rfl)) (by (with_reducible repeat (first | refine blk_drewN ?_ _ | refine blk_drew ?_ | refine blk_alloc ?_ _)); exact BR.out) (by simp [opZ, Ar.cells_size]) (by refine Ar.all_app ?_ (Ar.all_app (Ar.cells_one _ _ _) ?_) <;> simp [Value.oneCell']) ?_; intro wv hbk_ hg; have n0_ := Aside0.mk hbk_; have n1_ := Aside0.mk (Below.grown (by repeat (first | (with_reducible first | exact HB.out | apply below_alloc | apply pw_below_drewN | apply below_drew1) | exact HB.out)) hg (below_size (by repeat (first | (with_reducible first | exact HB.out | apply below_alloc | apply pw_below_drewN | apply below_drew1) | exact HB.out))) (fun _ e_ => by cases e_; exact GEBR.out)); clear BR HB hbk_ hg; have BR := n0_; have HB := n1_; clear n0_ n1_))
          refine bodyPost_ret (results_cell_row rfl _ _ gr 39 (opG { o with f3 := l2.take 32 }) (0, 0) _ rfl BR.out Try.underlying39 rfl (by simp only [opG, Array.size_append, Ar.cells_size, List.size_toArray, List.length_cons, List.length_nil]; kernel_rfl)) rfl ?_
          exact ⟨rfl, HB.out⟩
    · rw [if_neg hn] at h
      exact absurd h (by simp)
  · rw [if_neg c104] at h
    have c104b : (a1 == 104) = false := by simpa using c104
    clear c104
    obtain rfl := Option.some.inj h
    go_enter Try.func21, Try.ntmps21
    go_wp2_with (first | ((with_reducible refine gate_dst (N := 3) rfl ?_); refine box_event ?hg (N := 3) ?hd (cs := opG o) (t := 39) ?hr ?_; (case hd => rfl); (case hg => rfl); (case hr => exact Ar.gbox_run rfl rfl); intro gb hg wx hbox hb; have n0_ := Aside0.mk (below_step (by repeat (first | (with_reducible first | exact HB.out | apply below_alloc | apply pw_below_drewN | apply below_drew1) | exact HB.out)) hb); have n1_ := Aside0.mk (hbox); have n2_ := Aside0.mk ((by rw [hg]; exact below_size (by repeat (first | (with_reducible first | exact HB.out | apply below_alloc | apply pw_below_drewN | apply below_drew1) | exact HB.out)) : w.heap.size ≤ gb)); clear HB; have HB := n0_; have BO := n1_; have GEBO := n2_; clear n0_ n1_ n2_; clear hb hbox hg) | ((with_reducible refine gate_dst (N := 6) rfl ?_); refine box_event ?hg (N := 6) ?hd (cs := opZ) (t := 39) ?hr ?_; (case hd => rfl); (case hg => rfl); (case hr => exact Ar.galloc_run rfl (by kernel_rfl)); intro gr hg wx hbox hb; have n0_ := Aside0.mk (below_step (by repeat (first | (with_reducible first | exact HB.out | apply below_alloc | apply pw_below_drewN | apply below_drew1) | exact HB.out)) hb); have n1_ := Aside0.mk (blk_below (g := gb) (o := .cells (opG o) 39 (0, 0)) (by (with_reducible repeat (first | refine blk_drewN ?_ _ | refine blk_drew ?_ | refine blk_alloc ?_ _)); exact BO.out) hb); have n2_ := Aside0.mk (hbox); have n3_ := Aside0.mk ((by rw [hg]; exact below_size (by repeat (first | (with_reducible first | exact HB.out | apply below_alloc | apply pw_below_drewN | apply below_drew1) | exact HB.out)) : w.heap.size ≤ gr)); have m0_ := Aside0.mk (by rw [hg]; exact Nat.ne_of_lt (blk_lt (g := gb) (o := .cells (opG o) 39 (0, 0)) (by (with_reducible repeat (first | refine blk_drewN ?_ _ | refine blk_drew ?_ | refine blk_alloc ?_ _)); exact BO.out)) : gb ≠ gr); clear HB BO; have HB := n0_; have BO := n1_; have BR := n2_; have GEBR := n3_; clear n0_ n1_ n2_ n3_; have NE := m0_; clear hb hbox hg m0_) | ((with_reducible refine gate_dst (N := 87) rfl ?_); refine Ar.gload_event rfl (T := 39) rfl Try.underlying39 rfl (D := opG o) (by simp only [opG, Array.size_append, Ar.cells_size, List.size_toArray, List.length_cons, List.length_nil]; kernel_rfl) (A := ⟨gb, 0, none⟩) rfl (Ar.blk_part (by (with_reducible repeat (first | refine blk_drewN ?_ _ | refine blk_drew ?_ | refine blk_alloc ?_ _)); exact BO.out) Ar.in_whole) ?_) | ((with_reducible refine gate_store (t := 39) (p := 6) rfl ?_); refine Ar.gstore_event rfl rfl rfl (D := opG o) (by simp only [opG, Array.size_append, Ar.cells_size, List.size_toArray, List.length_cons, List.length_nil]; kernel_rfl) (g := gr) rfl (by first | rfl | (go_simp; done) | (go_simp; rfl)) (by (with_reducible repeat (first | refine blk_drewN ?_ _ | refine blk_drew ?_ | refine blk_alloc ?_ _)); exact BR.out) (by simp [opZ, Ar.cells_size]) (by refine Ar.all_app ?_ (Ar.all_app (Ar.cells_one _ _ _) ?_) <;> simp [Value.oneCell']) ?_; intro wv hbk_ hg; have n0_ := Aside0.mk hbk_; have n1_ := Aside0.mk (Below.grown (by repeat (first | (with_reducible first | exact HB.out | apply below_alloc | apply pw_below_drewN | apply below_drew1) | exact HB.out)) hg (below_size (by repeat (first | (with_reducible first | exact HB.out | apply below_alloc | apply pw_below_drewN | apply below_drew1) | exact HB.out))) (fun _ e_ => by cases e_; exact GEBR.out)); clear BR HB hbk_ hg; have BR := n0_; have HB := n1_; clear n0_ n1_))
    refine bodyPost_ret (results_cell_row rfl _ _ gr 39 (opG o) (0, 0) _ rfl BR.out Try.underlying39 rfl (by simp only [opG, Array.size_append, Ar.cells_size, List.size_toArray, List.length_cons, List.length_nil]; kernel_rfl)) rfl ?_
    exact ⟨rfl, HB.out⟩
theorem drawlotref24_get.calls (k : Nat) (a0_0 : Int) (a0_1 : Int) (a0_2 : Int) (a0_3 : List Int) (a0_4 : Int) (a1 : Int) (A2 : Option Addr) (c2 : Nat) (l2 : List Int) (r1 : Int) (r2 : Int) (r3 : Int) (r4 : List Int) (r5 : Int) (w : World) (hr2 : Kd.C (Kd.int .u8) w A2 l2.length l2) (hc2 : l2.length ≤ c2) (h : drawlotref24_get.f k a0_0 a0_1 a0_2 a0_3 a0_4 a1 l2 = some (r1, r2, r3, r4, r5)) :
    Calls Try.prog 21 #[.agg (#[.int .i64 a0_0, .int .i64 a0_1, .int .u64 a0_2] ++ (Ar.cells .u8 32 a0_3 ++ #[.int .i64 a0_4])), .int .u8 a1, .slice A2 l2.length c2] w fun e w' => e = .returned (.agg (#[.int .i64 r1, .int .i64 r2, .int .u64 r3] ++ (Ar.cells .u8 32 r4 ++ #[.int .i64 r5]))) ∧ Below w.heap.size w w' := by
  obtain ⟨o, hg, he⟩ := Option.bind_eq_some_iff.mp h
  simp only [Option.some.injEq, Prod.mk.injEq] at he
  obtain ⟨rfl, rfl, rfl, rfl, rfl⟩ := he
  exact drawlotref24_get.callsO k ⟨a0_0, a0_1, a0_2, a0_3, a0_4⟩ a1 A2 c2 l2 o w hr2 hg

end Go.Proofs.Ytkbpdnhbmceajaa.PQ
