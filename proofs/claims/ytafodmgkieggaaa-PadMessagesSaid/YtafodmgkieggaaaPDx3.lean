/- Written by xprint.py, this session's own driver, for the seat Ytafodmgkieggaaa: contracts of Go functions, each saying that a call answers what a plain Lean function of the same name says, and, in a text named Law, the row of a law: its Go function answers true for every input. No conditions. -/
import Derived.Test.YtafodmgkieggaaaPDx0
namespace Go.Proofs.Ytafodmgkieggaaa.PD
open Go.RowKit Go.Proofs.YtafodmgkieggaaaW.PrintWords Go.Proofs.YtafodmgkieggaaaW.PrintLast Go.Proofs.YtafodmgkieggaaaW.PrintMore
attribute [local go_sem] max2_int min2_int max_two min_two max_three min_three max_four min_four   -- for this text's walks alone
set_option linter.unusedVariables false
set_option linter.unusedSimpArgs false

/-! ### drawlotref02_Same: function 16 -/

def drawlotref02_Same.l0 : Nat → List (List Int) → List (List Int) → Int → Option Bool
  | 0, _, _, _ => none
  | k + 1, a, b, i => if i < (a.length : Int) then (if 0 ≤ i ∧ i < (b.length : Int) then (if Ar.eqb 64 (a.getD i.toNat (List.replicate 64 0)) (b.getD i.toNat (List.replicate 64 0)) = true then drawlotref02_Same.l0 k a b (wrap64 (i + 1)) else some false) else none) else some true
def drawlotref02_Same.f (k : Nat) (l0 l1 : List (List Int)) : Option Bool := if (l0.length : Int) = (l1.length : Int) then drawlotref02_Same.l0 k l0 l1 0 else some false
theorem drawlotref02_Same.mono_l : ∀ k a b i, LeO (drawlotref02_Same.l0 k a b i) (drawlotref02_Same.l0 (k + 1) a b i)
  | 0, _, _, _ => fun r h => by simp [drawlotref02_Same.l0] at h
  | k + 1, _, _, _ => by
    unfold drawlotref02_Same.l0
    exact LeO.ite (LeO.ite (LeO.ite (drawlotref02_Same.mono_l k _ _ _) (LeO.refl _)) (LeO.none _)) (LeO.refl _)
theorem drawlotref02_Same.mono : ∀ a0 a1 k, LeO (drawlotref02_Same.f k a0 a1) (drawlotref02_Same.f (k + 1) a0 a1) := fun a0 a1 k => by
  unfold drawlotref02_Same.f
  exact LeO.ite (drawlotref02_Same.mono_l k _ _ _) (LeO.refl _)
set_option maxHeartbeats 8000000 in
set_option maxRecDepth 100000 in
theorem drawlotref02_Same.calls (k : Nat) (A0 : Option Addr) (c0 : Nat) (l0 : List (List Int)) (A1 : Option Addr) (c1 : Nat) (l1 : List (List Int)) (r : Bool) (w : World) (hr0 : Kd.C (Ar.K .u8 64) w A0 l0.length l0) (hc0 : l0.length ≤ c0) (hr1 : Kd.C (Ar.K .u8 64) w A1 l1.length l1) (hc1 : l1.length ≤ c1) (h : drawlotref02_Same.f k l0 l1 = some r) :
    Calls Try.prog 16 #[.slice A0 l0.length c0, .slice A1 l1.length c1] w fun e w' => e = .returned (.bool r) ∧ Below w.heap.size w w' := by
  have hu36 := Try.underlying36
  have HR0 := Aside0.mk hr0
  have HR1 := Aside0.mk hr1
  have HB := Aside0.mk (Below.refl w.heap.size w)
  clear hr0 hr1 hc0 hc1
  unfold drawlotref02_Same.f at h
  by_cases c : (l0.length : Int) = (l1.length : Int)
  · rw [if_pos c] at h
    have H' := Aside0.mk h
    have cb0 : ((l0.length : Int) == (l1.length : Int)) = true := beq_iff_eq.mpr c
    have cb1 : ((l0.length : Int) != (l1.length : Int)) = false := bne_eq_false_iff_eq.mpr c
    have cb2 : (l0.length == l1.length) = true := beq_iff_eq.mpr (by omega)
    have cb3 : (l0.length != l1.length) = false := bne_eq_false_iff_eq.mpr (by omega)
    clear h c
    go_enter Try.func16, Try.ntmps16
    go_wp2
    go_loopg [5] k (fun kq v5 w' => ∃ (i : Int), v5 = .int .i64 i ∧ Aside0 (drawlotref02_Same.l0 kq l0 l1 i = some r) ∧ Aside0 (kq ≤ k) ∧ Aside0 (Below w.heap.size w w'))
    case atStart => exact ⟨0, rfl, H', ⟨Nat.le_refl _⟩, HB⟩
    case round =>
      clear H' HB
      obtain ⟨i, rfl, HA, HK1, HB⟩ := hrel
      cases gk with
      | zero => exact absurd HA.out (by simp [drawlotref02_Same.l0])
      | succ k1 =>
        have H := HA.out
        clear HA
        simp only [drawlotref02_Same.l0] at H
        by_cases c : i < (l0.length : Int)
        · rw [if_pos c] at H
          by_cases d : 0 ≤ i ∧ i < (l1.length : Int)
          · rw [if_pos d] at H
            have c1 : decide (i < (l0.length : Int)) = true := decide_eq_true c
            have p1 := eq_true d.1
            have q1 := eq_true d.2
            have q2 := eq_true c
            have C0 : ∃ ad, A0 = some ad ∧ ∀ W : World, Below w.heap.size w W → ∀ j : Nat, j < 64 → W.cell? ((ad.add (i.toNat * 64)).add j) = some (.int .u8 (Ar.get 64 (l0.getD i.toNat (List.replicate 64 0)) j)) := by
              obtain ⟨ad, e, _⟩ := Ar.elem_at HR0.out (List.replicate 64 0) i d.1 c
              refine ⟨ad, e, fun W hW j hj => ?_⟩
              obtain ⟨ad2, e2, hx⟩ := Ar.elem_at (Kd.C_below HR0.out hW) (List.replicate 64 0) i d.1 c
              rw [e] at e2
              injection e2 with e2
              subst e2
              rw [Ar.add_add]
              exact hx j hj
            have C1 : ∃ ad, A1 = some ad ∧ ∀ W : World, Below w.heap.size w W → ∀ j : Nat, j < 64 → W.cell? ((ad.add (i.toNat * 64)).add j) = some (.int .u8 (Ar.get 64 (l1.getD i.toNat (List.replicate 64 0)) j)) := by
              obtain ⟨ad, e, _⟩ := Ar.elem_at HR1.out (List.replicate 64 0) i d.1 d.2
              refine ⟨ad, e, fun W hW j hj => ?_⟩
              obtain ⟨ad2, e2, hx⟩ := Ar.elem_at (Kd.C_below HR1.out hW) (List.replicate 64 0) i d.1 d.2
              rw [e] at e2
              injection e2 with e2
              subst e2
              rw [Ar.add_add]
              exact hx j hj
            obtain ⟨ad0, rfl, C0⟩ := C0
            obtain ⟨ad1, rfl, C1⟩ := C1
            have C0 := Aside0.mk C0
            have C1 := Aside0.mk C1
            clear c d
            generalize hx0 : l0.getD i.toNat (List.replicate 64 0) = x0 at H C0
            generalize hx1 : l1.getD i.toNat (List.replicate 64 0) = x1 at H C1
            clear hx0 hx1
            by_cases e : Ar.eqb 64 x0 x1 = true
            · rw [if_pos e] at H
              have H' := Aside0.mk H
              clear H
              try go_wp2
              refine start_ (n := 9) (S := fun w' => (∀ j_ : Nat, j_ < 64 → w'.cell? ((ad0.add (i.toNat * 64)).add j_) = some (.int .u8 (Ar.get 64 x0 j_))) ∧ (∀ j_ : Nat, j_ < 64 → w'.cell? ((ad1.add (i.toNat * 64)).add j_) = some (.int .u8 (Ar.get 64 x1 j_)))) (ds := []) #[false, false, false, false, false, false, false, false, false] (by kernel_rfl) rfl rfl ⟨C0.out _ (by repeat (first | (with_reducible first | exact HB.out | apply below_alloc | apply pw_below_drewN | apply below_drew1) | exact HB.out)), C1.out _ (by repeat (first | (with_reducible first | exact HB.out | apply below_alloc | apply pw_below_drewN | apply below_drew1) | exact HB.out))⟩ (fun hHeld => ?_)
              refine pure_ (i := 0) (N := some 17) (v := ?_) (a' := ?_) #[true, false, false, false, false, false, false, false, false] rfl rfl (by kernel_rfl) (fun _ _ _ h => h) (Or.inl ⟨by rfl, ?_⟩) ?_ ?_
              rotate_left
              · intro w'
                go_simp
                with_reducible rfl
              rotate_left
              · simp only [Act.put, List.setIfInBounds_toArray, List.set_cons_zero, List.set_cons_succ, i64_w, i32_w]
                rfl
              refine pure_ (i := 1) (N := some 18) (v := ?_) (a' := ?_) #[true, true, false, false, false, false, false, false, false] rfl rfl (by kernel_rfl) (fun _ _ _ h => h) (Or.inl ⟨by rfl, ?_⟩) ?_ ?_
              rotate_left
              · intro w'
                go_simp
                with_reducible rfl
              rotate_left
              · simp only [Act.put, List.setIfInBounds_toArray, List.set_cons_zero, List.set_cons_succ, i64_w, i32_w]
                rfl
              refine pure_ (i := 2) (N := some 19) (v := ?_) (a' := ?_) #[true, true, true, false, false, false, false, false, false] rfl rfl (by kernel_rfl) (fun _ _ _ h => h) (Or.inl ⟨by rfl, ?_⟩) ?_ ?_
              rotate_left
              · intro w'
                go_simp
                with_reducible rfl
              rotate_left
              · simp only [Act.put, List.setIfInBounds_toArray, List.set_cons_zero, List.set_cons_succ, i64_w, i32_w]
                rfl
              refine pure_ (i := 4) (N := some 21) (v := ?_) (a' := ?_) #[true, true, true, false, true, false, false, false, false] rfl rfl (by kernel_rfl) (fun _ _ _ h => h) (Or.inl ⟨by rfl, ?_⟩) ?_ ?_
              rotate_left
              · intro w'
                go_simp
                with_reducible rfl
              rotate_left
              · simp only [Act.put, List.setIfInBounds_toArray, List.set_cons_zero, List.set_cons_succ, i64_w, i32_w]
                rfl
              refine pure_ (i := 5) (N := some 22) (v := ?_) (a' := ?_) #[true, true, true, false, true, true, false, false, false] rfl rfl (by kernel_rfl) (fun _ _ _ h => h) (Or.inl ⟨by rfl, ?_⟩) ?_ ?_
              rotate_left
              · intro w'
                go_simp
                with_reducible rfl
              rotate_left
              · simp only [Act.put, List.setIfInBounds_toArray, List.set_cons_zero, List.set_cons_succ, i64_w, i32_w]
                rfl
              refine pure_ (i := 6) (N := some 23) (v := ?_) (a' := ?_) #[true, true, true, false, true, true, true, false, false] rfl rfl (by kernel_rfl) (fun _ _ _ h => h) (Or.inl ⟨by rfl, ?_⟩) ?_ ?_
              rotate_left
              · intro w'
                go_simp
                with_reducible rfl
              rotate_left
              · simp only [Act.put, List.setIfInBounds_toArray, List.set_cons_zero, List.set_cons_succ, i64_w, i32_w]
                rfl
              refine take_ (i := 3) (N := some 20) (v := ?_) (a' := ?_) #[true, true, true, true, true, true, true, false, false] rfl rfl (by kernel_rfl) (fun _ _ _ h => h) (Or.inl ⟨by rfl, ?_⟩) hHeld ?_ ?_
              rotate_left
              · rintro w' ⟨s0, s1⟩
                (refine (Ar.load_at_run rfl Try.underlying36 (by kernel_rfl) rfl s0).trans ?_; with_reducible rfl)
              rotate_left
              · simp only [Act.put, List.setIfInBounds_toArray, List.set_cons_zero, List.set_cons_succ, i64_w, i32_w]
                rfl
              refine take_ (i := 7) (N := some 24) (v := ?_) (a' := ?_) #[true, true, true, true, true, true, true, true, false] rfl rfl (by kernel_rfl) (fun _ _ _ h => h) (Or.inl ⟨by rfl, ?_⟩) hHeld ?_ ?_
              rotate_left
              · rintro w' ⟨s0, s1⟩
                (refine (Ar.load_at_run rfl Try.underlying36 (by kernel_rfl) rfl s1).trans ?_; with_reducible rfl)
              rotate_left
              · simp only [Act.put, List.setIfInBounds_toArray, List.set_cons_zero, List.set_cons_succ, i64_w, i32_w]
                rfl
              refine pure_ (i := 8) (N := some 25) (v := ?_) (a' := ?_) #[true, true, true, true, true, true, true, true, true] rfl rfl (by kernel_rfl) (fun _ _ _ h => h) (Or.inl ⟨by rfl, ?_⟩) ?_ ?_
              rotate_left
              · intro w'
                go_simp
                with_reducible rfl
              rotate_left
              · simp only [Act.put, List.setIfInBounds_toArray, List.set_cons_zero, List.set_cons_succ, i64_w, i32_w]
                rfl
              refine done_ (by kernel_rfl) ?_
              try go_wp2
              go_roundg k1
              case measure => have := HK1.out; omega
              case rel => exact ⟨_, rfl, H', ⟨by have := HK1.out; omega⟩, ⟨by repeat (first | (with_reducible first | exact HB.out | apply below_alloc | apply pw_below_drewN | apply below_drew1) | exact HB.out)⟩⟩
            · rw [if_neg e] at H
              have e := Bool.eq_false_iff.mpr e
              obtain rfl := Option.some.inj H
              try go_wp2
              refine start_ (n := 9) (S := fun w' => (∀ j_ : Nat, j_ < 64 → w'.cell? ((ad0.add (i.toNat * 64)).add j_) = some (.int .u8 (Ar.get 64 x0 j_))) ∧ (∀ j_ : Nat, j_ < 64 → w'.cell? ((ad1.add (i.toNat * 64)).add j_) = some (.int .u8 (Ar.get 64 x1 j_)))) (ds := []) #[false, false, false, false, false, false, false, false, false] (by kernel_rfl) rfl rfl ⟨C0.out _ (by repeat (first | (with_reducible first | exact HB.out | apply below_alloc | apply pw_below_drewN | apply below_drew1) | exact HB.out)), C1.out _ (by repeat (first | (with_reducible first | exact HB.out | apply below_alloc | apply pw_below_drewN | apply below_drew1) | exact HB.out))⟩ (fun hHeld => ?_)
              refine pure_ (i := 0) (N := some 17) (v := ?_) (a' := ?_) #[true, false, false, false, false, false, false, false, false] rfl rfl (by kernel_rfl) (fun _ _ _ h => h) (Or.inl ⟨by rfl, ?_⟩) ?_ ?_
              rotate_left
              · intro w'
                go_simp
                with_reducible rfl
              rotate_left
              · simp only [Act.put, List.setIfInBounds_toArray, List.set_cons_zero, List.set_cons_succ, i64_w, i32_w]
                rfl
              refine pure_ (i := 1) (N := some 18) (v := ?_) (a' := ?_) #[true, true, false, false, false, false, false, false, false] rfl rfl (by kernel_rfl) (fun _ _ _ h => h) (Or.inl ⟨by rfl, ?_⟩) ?_ ?_
              rotate_left
              · intro w'
                go_simp
                with_reducible rfl
              rotate_left
              · simp only [Act.put, List.setIfInBounds_toArray, List.set_cons_zero, List.set_cons_succ, i64_w, i32_w]
                rfl
              refine pure_ (i := 2) (N := some 19) (v := ?_) (a' := ?_) #[true, true, true, false, false, false, false, false, false] rfl rfl (by kernel_rfl) (fun _ _ _ h => h) (Or.inl ⟨by rfl, ?_⟩) ?_ ?_
              rotate_left
              · intro w'
                go_simp
                with_reducible rfl
              rotate_left
              · simp only [Act.put, List.setIfInBounds_toArray, List.set_cons_zero, List.set_cons_succ, i64_w, i32_w]
                rfl
              refine pure_ (i := 4) (N := some 21) (v := ?_) (a' := ?_) #[true, true, true, false, true, false, false, false, false] rfl rfl (by kernel_rfl) (fun _ _ _ h => h) (Or.inl ⟨by rfl, ?_⟩) ?_ ?_
              rotate_left
              · intro w'
                go_simp
                with_reducible rfl
              rotate_left
              · simp only [Act.put, List.setIfInBounds_toArray, List.set_cons_zero, List.set_cons_succ, i64_w, i32_w]
                rfl
              refine pure_ (i := 5) (N := some 22) (v := ?_) (a' := ?_) #[true, true, true, false, true, true, false, false, false] rfl rfl (by kernel_rfl) (fun _ _ _ h => h) (Or.inl ⟨by rfl, ?_⟩) ?_ ?_
              rotate_left
              · intro w'
                go_simp
                with_reducible rfl
              rotate_left
              · simp only [Act.put, List.setIfInBounds_toArray, List.set_cons_zero, List.set_cons_succ, i64_w, i32_w]
                rfl
              refine pure_ (i := 6) (N := some 23) (v := ?_) (a' := ?_) #[true, true, true, false, true, true, true, false, false] rfl rfl (by kernel_rfl) (fun _ _ _ h => h) (Or.inl ⟨by rfl, ?_⟩) ?_ ?_
              rotate_left
              · intro w'
                go_simp
                with_reducible rfl
              rotate_left
              · simp only [Act.put, List.setIfInBounds_toArray, List.set_cons_zero, List.set_cons_succ, i64_w, i32_w]
                rfl
              refine take_ (i := 3) (N := some 20) (v := ?_) (a' := ?_) #[true, true, true, true, true, true, true, false, false] rfl rfl (by kernel_rfl) (fun _ _ _ h => h) (Or.inl ⟨by rfl, ?_⟩) hHeld ?_ ?_
              rotate_left
              · rintro w' ⟨s0, s1⟩
                (refine (Ar.load_at_run rfl Try.underlying36 (by kernel_rfl) rfl s0).trans ?_; with_reducible rfl)
              rotate_left
              · simp only [Act.put, List.setIfInBounds_toArray, List.set_cons_zero, List.set_cons_succ, i64_w, i32_w]
                rfl
              refine take_ (i := 7) (N := some 24) (v := ?_) (a' := ?_) #[true, true, true, true, true, true, true, true, false] rfl rfl (by kernel_rfl) (fun _ _ _ h => h) (Or.inl ⟨by rfl, ?_⟩) hHeld ?_ ?_
              rotate_left
              · rintro w' ⟨s0, s1⟩
                (refine (Ar.load_at_run rfl Try.underlying36 (by kernel_rfl) rfl s1).trans ?_; with_reducible rfl)
              rotate_left
              · simp only [Act.put, List.setIfInBounds_toArray, List.set_cons_zero, List.set_cons_succ, i64_w, i32_w]
                rfl
              refine pure_ (i := 8) (N := some 25) (v := ?_) (a' := ?_) #[true, true, true, true, true, true, true, true, true] rfl rfl (by kernel_rfl) (fun _ _ _ h => h) (Or.inl ⟨by rfl, ?_⟩) ?_ ?_
              rotate_left
              · intro w'
                go_simp
                with_reducible rfl
              rotate_left
              · simp only [Act.put, List.setIfInBounds_toArray, List.set_cons_zero, List.set_cons_succ, i64_w, i32_w]
                rfl
              refine done_ (by kernel_rfl) ?_
              try go_wp2
              go_ret
              exact ⟨rfl, by repeat (first | (with_reducible first | exact HB.out | apply below_alloc | apply pw_below_drewN | apply below_drew1) | exact HB.out)⟩
          · rw [if_neg d] at H
            exact absurd H (by simp)
        · rw [if_neg c] at H
          have c1 : decide (i < (l0.length : Int)) = false := decide_eq_false c
          obtain rfl := Option.some.inj H
          clear c
          go_wp2
          go_ret
          exact ⟨rfl, HB.out⟩
  · rw [if_neg c] at h
    have cb0 : ((l0.length : Int) == (l1.length : Int)) = false := beq_eq_false_iff_ne.mpr c
    have cb1 : ((l0.length : Int) != (l1.length : Int)) = true := bne_iff_ne.mpr c
    have cb2 : (l0.length == l1.length) = false := beq_eq_false_iff_ne.mpr (by omega)
    have cb3 : (l0.length != l1.length) = true := bne_iff_ne.mpr (by omega)
    obtain rfl := Option.some.inj h
    clear c
    go_enter Try.func16, Try.ntmps16
    go_wp2
    go_ret
    exact ⟨rfl, HB.out⟩

end Go.Proofs.Ytafodmgkieggaaa.PD
