/- Proved here: LawShaWrites, the statement of the row that this text's last part names, and all that it rests on: words on walks, contracts of the program's functions, plain lemmas. Conditions: none but those of the given row. (part 2 of 7) -/
import Derived.Test.YtkcdcbiobkcpmaaDoorZW0
section
namespace Go.Proofs.YtkcdcbiobkcpmaaDoor.PA
open Go.RowKit Go.Proofs.YtkcdcbiobkcpmaaDoorW.PrintWords Go.Proofs.YtkcdcbiobkcpmaaDoorW.PrintLast Go.Proofs.YtkcdcbiobkcpmaaDoorW.PrintMore
attribute [local go_sem] max2_int min2_int max_two min_two max_three min_three max_four min_four
set_option linter.unusedVariables false
set_option linter.unusedSimpArgs false
def sha_Right.f (a0_0 : List Int) (l0_1 : List Int) (a0_2 : Int) : Option (Bool) := if a0_2 < 2305843009213693952 then (some ((IntKind.u64.wrap ((l0_1.length : Int))) == (Go.bits .and .u64 a0_2 63))) else (some false)
set_option maxHeartbeats 8000000 in
set_option maxRecDepth 100000 in
theorem sha_Right.calls (a0_0 : List Int) (A0_1 : Option Addr) (c0_1 : Nat) (l0_1 : List Int) (a0_2 : Int) (r : Bool) (w : World) (hr0_1 : Kd.C (Kd.int .u8) w A0_1 l0_1.length l0_1) (hc0_1 : l0_1.length ≤ c0_1) (h : sha_Right.f a0_0 l0_1 a0_2 = some r) :
    Calls Tryd.prog 17 #[.agg (Ar.cells .u32 8 a0_0 ++ #[.slice A0_1 l0_1.length c0_1, .int .u64 a0_2])] w fun e w' => e = .returned (.bool r) ∧ Below w.heap.size w w' := by
  have hu36 := Tryd.underlying36
  have HR0_1 := Aside0.mk hr0_1
  have HC0_1 := Aside0.mk hc0_1
  clear hr0_1 hc0_1
  have HB := Aside0.mk (Below.refl w.heap.size w)
  have H : (if a0_2 < 2305843009213693952 then (some ((IntKind.u64.wrap ((l0_1.length : Int))) == (Go.bits .and .u64 a0_2 63))) else (some false)) = some r := h
  clear h
  by_cases c2 : a0_2 < 2305843009213693952
  · rw [if_pos c2] at H
    have c2b0 : decide (a0_2 < 2305843009213693952) = true := decide_eq_true c2
    clear c2
    obtain rfl := Option.some.inj H
    go_enter Tryd.func17, Tryd.ntmps17
    go_wp2_with (first | ((with_reducible refine gate_dst (N := 1) rfl ?_); (try (refine gate_guard (by rfl) ?_; dsimp only)); refine qF (N := 1) (cs := ((Ar.cells .u32 8 a0_0) ++ #[.slice A0_1 l0_1.length c0_1, .int .u64 a0_2])) (t := 36) ?_; intro gb101 hg w3 hbox hb; have BK101 := Aside0.mk (hbox); have GW101 := Aside0.mk ((qe HB hg : w.heap.size ≤ gb101)); have GE101 := Aside0.mk ((qe HB hg : w.heap.size ≤ gb101)); replace HB := Aside0.mk (below_step (qs HB) hb); clear hb hbox hg; have hcz4_1 : w3.cell? ⟨gb101, 8, none⟩ = some (.slice A0_1 l0_1.length c0_1) := (blk_cell BK101.out 8).trans qc; have hcz4_2 : w3.cell? ⟨gb101, 9, none⟩ = some (.int .u64 a0_2) := (blk_cell BK101.out 9).trans qc))
    go_ret
    exact ⟨by first | rfl | (simp [errW_none, errW_some] <;> rfl) | (simp [*, errW_none, errW_some] <;> rfl), by repeat (first | (with_reducible first | exact HB.out | apply below_alloc | apply pw_below_drewN | apply below_drew1 | refine below_set ?_ GE101.out) | exact HB.out)⟩
  · rw [if_neg c2] at H
    have c2b0 : decide (a0_2 < 2305843009213693952) = false := decide_eq_false c2
    clear c2
    obtain rfl := Option.some.inj H
    go_enter Tryd.func17, Tryd.ntmps17
    go_wp2_with (first | ((with_reducible refine gate_dst (N := 1) rfl ?_); (try (refine gate_guard (by rfl) ?_; dsimp only)); refine qF (N := 1) (cs := ((Ar.cells .u32 8 a0_0) ++ #[.slice A0_1 l0_1.length c0_1, .int .u64 a0_2])) (t := 36) ?_; intro gb101 hg w5 hbox hb; have BK101 := Aside0.mk (hbox); have GW101 := Aside0.mk ((qe HB hg : w.heap.size ≤ gb101)); have GE101 := Aside0.mk ((qe HB hg : w.heap.size ≤ gb101)); replace HB := Aside0.mk (below_step (qs HB) hb); clear hb hbox hg; have hcz6_1 : w5.cell? ⟨gb101, 8, none⟩ = some (.slice A0_1 l0_1.length c0_1) := (blk_cell BK101.out 8).trans qc; have hcz6_2 : w5.cell? ⟨gb101, 9, none⟩ = some (.int .u64 a0_2) := (blk_cell BK101.out 9).trans qc))
    go_ret
    exact ⟨by first | rfl | (simp [errW_none, errW_some] <;> rfl) | (simp [*, errW_none, errW_some] <;> rfl), by repeat (first | (with_reducible first | exact HB.out | apply below_alloc | apply pw_below_drewN | apply below_drew1 | refine below_set ?_ GE101.out) | exact HB.out)⟩
theorem pad_Cut_info : (Tryd.prog.info? 78).map (fun i => (i.zero, i.size, i.bytes)) = some (some (.agg (Ar.cells .u8 64 (List.replicate 64 0))), 64, 64) := by kernel_rfl
def pad_Cut.l0 : Nat → List Int → List (List Int) → Option ((List (List Int)) × List Int)
  | 0, _, _ => none
  | k + 1, b, out => if (b.length : Int) ≥ 64 then (if out.length < 1048576 then pad_Cut.l0 k (b.drop 64) (out ++ [b.take 64]) else none) else some (out, b)
def pad_Cut.f (k : Nat) (l0 : List Int) : Option ((List (List Int)) × List Int) := pad_Cut.l0 k l0 []
theorem pad_Cut.mono_l : ∀ k b out, LeO (pad_Cut.l0 k b out) (pad_Cut.l0 (k + 1) b out)
  | 0, _, _ => fun r h => by simp [pad_Cut.l0] at h
  | k + 1, _, _ => by
    unfold pad_Cut.l0
    exact LeO.ite (LeO.ite (pad_Cut.mono_l k _ _) (LeO.none _)) (LeO.refl _)
theorem pad_Cut.mono : ∀ a0 k, LeO (pad_Cut.f k a0) (pad_Cut.f (k + 1) a0) := fun a0 k => pad_Cut.mono_l k a0 []
set_option maxHeartbeats 8000000 in
set_option maxRecDepth 100000 in
theorem pad_Cut.calls (k : Nat) (P0_ : Nat → Prop) (A0 : Option Addr) (c0 : Nat) (l0 : List Int) (r1 : List (List Int)) (r2 : List Int) (w : World) (hs0 : Kd.V (Kd.int .u8) 5 w w.heap.size (fun k_ => P0_ k_) (.slice A0 l0.length c0) l0) (h : pad_Cut.f k l0 = some (r1, r2)) :
    Calls Tryd.prog 48 #[.slice A0 l0.length c0] w fun e w' => ∃ v0_ v1_ : Value, e = .returned (.tuple #[v0_, v1_]) ∧ Kd.R (Ar.K .u8 64) 78 w' w.heap.size (fun _ => True) v0_ r1 ∧ Kd.V (Kd.int .u8) 5 w' w.heap.size (fun k_ => (P0_ k_ ∨ w.heap.size ≤ k_) ∧ some k_ ≠ (v0_ : Value).ownBlock) v1_ r2 ∧ Below w.heap.size w w' := by
  have hu36 := Tryd.underlying78
  obtain ⟨i5, hi5, _, hsz5, _⟩ := info_parts info5
  have HV := Aside0.mk (Kd.V_bound hs0)
  have HB := Aside0.mk (Below.refl w.heap.size w)
  have H' := Aside0.mk (show pad_Cut.l0 k l0 [] = some (r1, r2) from h)
  clear hs0 h
  go_enter Tryd.func48, Tryd.ntmps48
  go_wp2
  go_loopg [0, 2] k (fun kq v0 v2 w' => ∃ (b : List Int) (out : List (List Int)), Aside0 (pad_Cut.l0 kq b out = some (r1, r2)) ∧ Aside0 (kq ≤ k) ∧ Aside0 (Kd.V (Kd.int .u8) 5 w w.heap.size (fun k_ => P0_ k_ ∧ k_ < w.heap.size) v0 b) ∧ Aside0 (Kd.R (Ar.K .u8 64) 78 w' w.heap.size (fun _ => True) v2 out) ∧ Aside0 (Below w.heap.size w w'))
  case atStart => exact ⟨l0, [], H', ⟨Nat.le_refl _⟩, HV, ⟨Kd.R_nil _ _ _ _ _⟩, HB⟩
  case round =>
    clear H' HV HB
    obtain ⟨b, out, HA, HK1, HV, HO, HB⟩ := hrel
    cases gk with
    | zero => exact absurd HA.out (by simp [pad_Cut.l0])
    | succ k1 =>
      have H := HA.out
      clear HA
      simp only [pad_Cut.l0] at H
      obtain ⟨A1, c1, rfl⟩ := Kd.V_slice HV.out
      obtain ⟨A2, c2, rfl⟩ := Kd.R_slice HO.out
      by_cases c : (b.length : Int) ≥ 64
      · rw [if_pos c] at H
        by_cases d : out.length < 1048576
        · rw [if_pos d] at H
          have H' := Aside0.mk H
          have D := Aside0.mk d
          have cb0 : decide (64 ≤ (b.length : Int)) = true := decide_eq_true c
          have cb1 : decide (64 ≤ b.length) = true := decide_eq_true (by omega)
          have cb2 := eq_true (show 64 ≤ b.length by omega)
          have CC := Aside0.mk (show 64 ≤ b.length by omega)
          clear H d c
          obtain ⟨A3, hcut, hV3⟩ := Ar.cut_V (P := Tryd.prog) Tryd.underlying29 hi5 hsz5 HV.out 64 (by omega) (by have := CC.out; omega)
          have HV3 := Aside0.mk (show Kd.V (Kd.int .u8) 5 w w.heap.size (fun k_ => P0_ k_ ∧ k_ < w.heap.size) (.slice A3 (b.length - 64) (c1 - 64)) (b.drop 64) by rw [← List.length_drop]; exact hV3)
          clear hV3
          have hRd := (Kd.V_at HV.out).2.2
          obtain ⟨ad, e, hcell0⟩ : ∃ ad, A1 = some ad ∧ ∀ W : World, Below w.heap.size w W → ∀ j : Nat, j < 64 → W.cell? (ad.add j) = some (.int .u8 (Ar.get 64 (b.take 64) j)) := by
            have hC := Kd.F_now hRd
            obtain ⟨ad, e, _⟩ := Kd.at_int hC 0 (by omega) (by have := CC.out; omega)
            refine ⟨ad, e, fun W hW j hj => ?_⟩
            obtain ⟨ad2, e2, hx⟩ := Kd.at_int (Kd.C_below hC hW) (j : Int) (by omega) (by have := CC.out; omega)
            rw [e] at e2
            injection e2 with e2
            subst e2
            rw [Int.toNat_natCast] at hx
            rw [hx, Ar.get_take CC.out hj]
          subst e
          have HC := Aside0.mk hcell0
          clear hcell0 hRd
          try go_wp2
          refine start_ (n := 10) (S := fun w' => ∀ j_ : Nat, j_ < 64 → w'.cell? (ad.add j_) = some (.int .u8 (Ar.get 64 (b.take 64) j_))) (ds := []) #[false, false, false, false, false, false, false, false, false, false] (by kernel_rfl) rfl rfl (HC.out _ (qs HB)) (fun hHeld => ?_)
          refine pure_ (i := 0) (N := some 7) (v := ?_) (a' := ?_) #[true, false, false, false, false, false, false, false, false, false] rfl rfl (by kernel_rfl) (fun _ _ _ h => h) (Or.inl ⟨by rfl, ?_⟩) ?_ ?_
          rotate_left
          · intro w'
            go_simp
            with_reducible rfl
          rotate_left
          · simp only [Act.put, zA_, zB_, zC_, i64_w, i32_w]
            rfl
          refine pure_ (i := 1) (N := some 8) (v := ?_) (a' := ?_) #[true, true, false, false, false, false, false, false, false, false] rfl rfl (by kernel_rfl) (fun _ _ _ h => h) (Or.inl ⟨by rfl, ?_⟩) ?_ ?_
          rotate_left
          · intro w'
            go_simp
            with_reducible rfl
          rotate_left
          · simp only [Act.put, zA_, zB_, zC_, i64_w, i32_w]
            rfl
          refine pure_ (i := 2) (N := some 9) (v := ?_) (a' := ?_) #[true, true, true, false, false, false, false, false, false, false] rfl rfl (by kernel_rfl) (fun _ _ _ h => h) (Or.inl ⟨by rfl, ?_⟩) ?_ ?_
          rotate_left
          · intro w'
            (refine (Ar.ptr_run rfl Tryd.underlying78 rfl CC.out).trans ?_; with_reducible rfl)
          rotate_left
          · simp only [Act.put, zA_, zB_, zC_, i64_w, i32_w]
            rfl
          refine pure_ (i := 6) (N := some 13) (v := ?_) (a' := ?_) #[true, true, true, false, false, false, true, false, false, false] rfl rfl (by kernel_rfl) (fun _ _ _ h => h) (Or.inl ⟨by rfl, ?_⟩) ?_ ?_
          rotate_left
          · intro w'
            go_simp
            with_reducible rfl
          rotate_left
          · simp only [Act.put, zA_, zB_, zC_, i64_w, i32_w]
            rfl
          refine pure_ (i := 7) (N := some 14) (v := ?_) (a' := ?_) #[true, true, true, false, false, false, true, true, false, false] rfl rfl (by kernel_rfl) (fun _ _ _ h => h) (Or.inl ⟨by rfl, ?_⟩) ?_ ?_
          rotate_left
          · intro w'
            go_simp
            with_reducible rfl
          rotate_left
          · simp only [Act.put, zA_, zB_, zC_, i64_w, i32_w]
            rfl
          refine take_ (i := 3) (N := some 10) (v := ?_) (a' := ?_) #[true, true, true, true, false, false, true, true, false, false] rfl rfl (by kernel_rfl) (fun _ _ _ h => h) (Or.inl ⟨by rfl, ?_⟩) hHeld ?_ ?_
          rotate_left
          · intro w' s0
            (refine (Ar.load_at_run rfl Tryd.underlying78 (by kernel_rfl) rfl s0).trans ?_; with_reducible rfl)
          rotate_left
          · simp only [Act.put, zA_, zB_, zC_, i64_w, i32_w]
            rfl
          refine one_ (i := 4) (N := some 11) #[true, true, true, true, true, false, true, true, false, false] rfl rfl (by kernel_rfl) (by decide) (fun K hK => ?_)
          refine value_ (by rfl) rfl (Ar.one_lit_run (k := .u8) (n := 64) (l := b.take 64) rfl Tryd.underlying53 pad_Cut_info (by omega) (by omega) rfl) ?_
          refine hK.out _ _ (HC.out _ (qs HB)) (fun hHeld => ?_)
          clear hK K
          refine norm_ (a' := ?_) ?_ ?_
          rotate_left
          · show Act.put _ (some 11) _ = _
            simp only [Act.put, zA_, zB_, zC_, i64_w, i32_w]
            rfl
          refine one_ (i := 5) (N := some 12) #[true, true, true, true, true, true, true, true, false, false] rfl rfl (by kernel_rfl) (by decide) (fun K hK => ?_)
          refine Kd.R_append_step (Ar.K .u8 64) (w0 := w) w.heap.size (by rfl) (.tmp 7) (.tmp 11) 53 78 (.agg (Ar.cells .u8 64 (List.replicate 64 0))) 64 rfl Tryd.underlying53 pad_Cut_info (by rw [show (Value.agg (Ar.cells .u8 64 (List.replicate 64 0))).cells = Ar.cells .u8 64 (List.replicate 64 0) from rfl, Ar.cells_size]; rfl) (by decide) (by omega) (.slice A2 out.length c2) out (b.take 64) (Ar.cells .u8 64 (b.take 64)).toList (fun _ => True) (fun _ => False) rfl rfl ?aP (fun _ hk => hk.elim) ?aF ?aO ?aB ?aS ?aL ?_
          (case aP => exact rfl)
          (case aB => exact (qs HB))
          (case aF => exact (fun _ _ => trivial))
          (case aO => exact (qr HO))
          (case aS => exact (below_size (qs HB)))
          (case aL => have := D.out; omega)
          intro v1 w9 ho hb hg hat
          have n0_ := Aside0.mk hb
          have n1_ := Aside0.mk ho
          clear HB HO
          have HB := n0_
          have HO := n1_
          clear n0_ n1_ ho hb hg hat
          refine hK.out _ _ (HC.out _ HB.out) (fun hHeld => ?_)
          clear hK K
          refine norm_ (a' := ?_) ?_ ?_
          rotate_left
          · show Act.put _ (some 12) _ = _
            simp only [Act.put, zA_, zB_, zC_, i64_w, i32_w]
            rfl
          refine pure_ (i := 8) (N := some 2) (v := ?_) (a' := ?_) #[true, true, true, true, true, true, true, true, true, false] rfl rfl (by kernel_rfl) (fun _ _ _ h => h) (Or.inl ⟨by rfl, ?_⟩) ?_ ?_
          rotate_left
          · intro w'
            go_simp
            with_reducible rfl
          rotate_left
          · simp only [Act.put, zA_, zB_, zC_, i64_w, i32_w]
            rfl
          refine pure_ (i := 9) (N := some 0) (v := ?_) (a' := ?_) #[true, true, true, true, true, true, true, true, true, true] rfl rfl (by kernel_rfl) (fun _ _ _ h => h) (Or.inl ⟨by rfl, ?_⟩) ?_ ?_
          rotate_left
          · intro w'
            go_simp
            with_reducible rfl
          rotate_left
          · simp only [Act.put, zA_, zB_, zC_, i64_w, i32_w]
            rfl
          refine done_ (by kernel_rfl) ?_
          try go_wp2
          go_roundg k1
          case measure => have := HK1.out; omega
          case rel => exact ⟨_, _, H', ⟨by have := HK1.out; omega⟩, HV3, HO, HB⟩
        · rw [if_neg d] at H
          exact absurd H (by simp)
      · rw [if_neg c] at H
        have cb0 : decide (64 ≤ (b.length : Int)) = false := decide_eq_false c
        have cb1 : decide (64 ≤ b.length) = false := decide_eq_false (by omega)
        simp only [Option.some.injEq, Prod.mk.injEq] at H
        obtain ⟨rfl, rfl⟩ := H
        clear c
        go_wp2
        go_ret2
        refine ⟨_, _, rfl, HO.out, ?_, HB.out⟩
        refine Kd.V_mono (Kd.V_below HV.out HB.out) (fun k_ hk => ⟨.inl hk.1, fun e_ => ?_⟩)
        have h2 := Kd.R_base HO.out k_ e_.symm
        have := hk.2
        omega
def comp_constants.f  : Option (List Int) := some [1116352408, 1899447441, 3049323471, 3921009573, 961987163, 1508970993, 2453635748, 2870763221, 3624381080, 310598401, 607225278, 1426881987, 1925078388, 2162078206, 2614888103, 3248222580, 3835390401, 4022224774, 264347078, 604807628, 770255983, 1249150122, 1555081692, 1996064986, 2554220882, 2821834349, 2952996808, 3210313671, 3336571891, 3584528711, 113926993, 338241895, 666307205, 773529912, 1294757372, 1396182291, 1695183700, 1986661051, 2177026350, 2456956037, 2730485921, 2820302411, 3259730800, 3345764771, 3516065817, 3600352804, 4094571909, 275423344, 430227734, 506948616, 659060556, 883997877, 958139571, 1322822218, 1537002063, 1747873779, 1955562222, 2024104815, 2227730452, 2361852424, 2428436474, 2756734187, 3204031479, 3329325298]
set_option maxHeartbeats 8000000 in
set_option maxRecDepth 100000 in
theorem comp_constants.calls  (r : List Int) (w : World) (h : comp_constants.f  = some r) :
  Calls Tryd.prog 64 #[] w fun e w' => e = .returned (.agg (Ar.cells .u32 64 r)) ∧ Below w.heap.size w w' := by
 have HB := Aside0.mk (Below.refl w.heap.size w)
 have H : (some [1116352408, 1899447441, 3049323471, 3921009573, 961987163, 1508970993, 2453635748, 2870763221, 3624381080, 310598401, 607225278, 1426881987, 1925078388, 2162078206, 2614888103, 3248222580, 3835390401, 4022224774, 264347078, 604807628, 770255983, 1249150122, 1555081692, 1996064986, 2554220882, 2821834349, 2952996808, 3210313671, 3336571891, 3584528711, 113926993, 338241895, 666307205, 773529912, 1294757372, 1396182291, 1695183700, 1986661051, 2177026350, 2456956037, 2730485921, 2820302411, 3259730800, 3345764771, 3516065817, 3600352804, 4094571909, 275423344, 430227734, 506948616, 659060556, 883997877, 958139571, 1322822218, 1537002063, 1747873779, 1955562222, 2024104815, 2227730452, 2361852424, 2428436474, 2756734187, 3204031479, 3329325298]) = some r := h
 clear h
 obtain rfl := Option.some.inj H
 go_enter Tryd.func64, Tryd.ntmps64
 go_wp2_with (first | ((with_reducible refine gate_dst (N := 0) rfl ?_); (try (refine gate_guard (by rfl) ?_; dsimp only)); refine qE (N := 0) (cs := (Ar.cells .u32 64 (List.replicate 64 0))) (t := 94) ?_; intro gb102 hg w1 hbox hb; have BK102 := Aside0.mk (hbox); have GW102 := Aside0.mk ((qe HB hg : w.heap.size ≤ gb102)); have GE102 := Aside0.mk ((qe HB hg : w.heap.size ≤ gb102)); replace HB := Aside0.mk (below_step (qs HB) hb); clear hb hbox hg) | ((with_reducible refine gate_dst (N := 1) rfl ?_); (try (refine gate_guard (by rfl) ?_; dsimp only)); refine Ar.build_event rfl (D := 1) rfl (T := 94) rfl (k := .u32) (n := 64) (l := [1116352408, 1899447441, 3049323471, 3921009573, 961987163, 1508970993, 2453635748, 2870763221, 3624381080, 310598401, 607225278, 1426881987, 1925078388, 2162078206, 2614888103, 3248222580, 3835390401, 4022224774, 264347078, 604807628, 770255983, 1249150122, 1555081692, 1996064986, 2554220882, 2821834349, 2952996808, 3210313671, 3336571891, 3584528711, 113926993, 338241895, 666307205, 773529912, 1294757372, 1396182291, 1695183700, 1986661051, 2177026350, 2456956037, 2730485921, 2820302411, 3259730800, 3345764771, 3516065817, 3600352804, 4094571909, 275423344, 430227734, 506948616, 659060556, 883997877, 958139571, 1322822218, 1537002063, 1747873779, 1955562222, 2024104815, 2227730452, 2361852424, 2428436474, 2756734187, 3204031479, 3329325298]) Tryd.underlying94 (by kernel_rfl) (by kernel_rfl) [(0, 1116352408), (1, 1899447441), (2, 3049323471), (3, 3921009573), (4, 961987163), (5, 1508970993), (6, 2453635748), (7, 2870763221), (8, 3624381080), (9, 310598401), (10, 607225278), (11, 1426881987), (12, 1925078388), (13, 2162078206), (14, 2614888103), (15, 3248222580), (16, 3835390401), (17, 4022224774), (18, 264347078), (19, 604807628), (20, 770255983), (21, 1249150122), (22, 1555081692), (23, 1996064986), (24, 2554220882), (25, 2821834349), (26, 2952996808), (27, 3210313671), (28, 3336571891), (29, 3584528711), (30, 113926993), (31, 338241895), (32, 666307205), (33, 773529912), (34, 1294757372), (35, 1396182291), (36, 1695183700), (37, 1986661051), (38, 2177026350), (39, 2456956037), (40, 2730485921), (41, 2820302411), (42, 3259730800), (43, 3345764771), (44, 3516065817), (45, 3600352804), (46, 4094571909), (47, 275423344), (48, 430227734), (49, 506948616), (50, 659060556), (51, 883997877), (52, 958139571), (53, 1322822218), (54, 1537002063), (55, 1747873779), (56, 1955562222), (57, 2024104815), (58, 2227730452), (59, 2361852424), (60, 2428436474), (61, 2756734187), (62, 3204031479), (63, 3329325298)] (by rfl) (by rfl) (by rfl) ?_) | ((with_reducible refine gate_store (t := 94) (p := 0) rfl ?_); refine Ar.store_all_event rfl rfl rfl Tryd.underlying94 (by kernel_rfl) (g := gb102) rfl (z := [1116352408, 1899447441, 3049323471, 3921009573, 961987163, 1508970993, 2453635748, 2870763221, 3624381080, 310598401, 607225278, 1426881987, 1925078388, 2162078206, 2614888103, 3248222580, 3835390401, 4022224774, 264347078, 604807628, 770255983, 1249150122, 1555081692, 1996064986, 2554220882, 2821834349, 2952996808, 3210313671, 3336571891, 3584528711, 113926993, 338241895, 666307205, 773529912, 1294757372, 1396182291, 1695183700, 1986661051, 2177026350, 2456956037, 2730485921, 2820302411, 3259730800, 3345764771, 3516065817, 3600352804, 4094571909, 275423344, 430227734, 506948616, 659060556, 883997877, 958139571, 1322822218, 1537002063, 1747873779, 1955562222, 2024104815, 2227730452, 2361852424, 2428436474, 2756734187, 3204031479, 3329325298]) qg (qb BK102) ?_; intro w2 hbk_ hg; replace BK102 := Aside0.mk (hbk_); replace HB := Aside0.mk (Below.grown (qs HB) hg ((below_size (qs HB))) (fun _ e_ => by cases e_; exact GE102.out)); clear hbk_ hg))
 refine bodyPost_ret (results_cell_row rfl _ _ gb102 94 (Ar.cells .u32 64 [1116352408, 1899447441, 3049323471, 3921009573, 961987163, 1508970993, 2453635748, 2870763221, 3624381080, 310598401, 607225278, 1426881987, 1925078388, 2162078206, 2614888103, 3248222580, 3835390401, 4022224774, 264347078, 604807628, 770255983, 1249150122, 1555081692, 1996064986, 2554220882, 2821834349, 2952996808, 3210313671, 3336571891, 3584528711, 113926993, 338241895, 666307205, 773529912, 1294757372, 1396182291, 1695183700, 1986661051, 2177026350, 2456956037, 2730485921, 2820302411, 3259730800, 3345764771, 3516065817, 3600352804, 4094571909, 275423344, 430227734, 506948616, 659060556, 883997877, 958139571, 1322822218, 1537002063, 1747873779, 1955562222, 2024104815, 2227730452, 2361852424, 2428436474, 2756734187, 3204031479, 3329325298]) (0, 0) _ rfl (qb BK102) Tryd.underlying94 rfl qZ) rfl ?_
 exact ⟨by first | rfl | (simp [errW_none, errW_some] <;> rfl) | (simp [*, errW_none, errW_some] <;> rfl), by repeat (first | (with_reducible first | exact HB.out | apply below_alloc | apply pw_below_drewN | apply below_drew1 | refine below_set ?_ GE102.out) | exact HB.out)⟩
def word_Get32.l0 : Nat → Int → List Int → Int → Option (Int)
 | 0, _, _, _ => none
 | k + 1, x2, x5, x6 => if x6 < 4 then (if 0 ≤ x6 then (word_Get32.l0 k (Go.bits .or .u32 ((x2 * 256) % 4294967296) ((Ar.get 4 x5 x6) % 4294967296)) x5 (wrap64 (x6 + 1))) else (none)) else (some x2)
def word_Get32.f (k : Nat) (a0 : List Int) : Option (Int) := word_Get32.l0 k 0 a0 0
theorem word_Get32.mono_l : ∀ k, (∀ y0 y1 y2, LeO (word_Get32.l0 k y0 y1 y2) (word_Get32.l0 (k + 1) y0 y1 y2))
 | 0 => fun _ _ _ r h => by simp [word_Get32.l0] at h
 | k + 1 => by
  have ih0 := word_Get32.mono_l k
  ·intro y0 y1 y2
   unfold word_Get32.l0
   repeat' first
   | (with_reducible exact ih0 _ _ _)
   | (with_reducible exact LeO.refl _)
   | (with_reducible exact LeO.none _)
   | (with_reducible refine LeO.ite ?_ ?_)
   | (with_reducible refine LeO.bind ?_ (fun _ => ?_))
   | exact ih0 _ _ _
   | exact LeO.none _
   | refine LeO.ite ?_ ?_
   | refine LeO.bind ?_ (fun _ => ?_)
theorem word_Get32.mono : ∀ a0 k, LeO (word_Get32.f k a0) (word_Get32.f (k + 1) a0) := by
 intro a0 k
 have ih0 := word_Get32.mono_l k
 unfold word_Get32.f
 repeat' first
   | (with_reducible exact ih0 _ _ _)
   | (with_reducible exact LeO.refl _)
   | (with_reducible exact LeO.none _)
   | (with_reducible refine LeO.ite ?_ ?_)
   | (with_reducible refine LeO.bind ?_ (fun _ => ?_))
   | exact ih0 _ _ _
   | exact LeO.none _
   | refine LeO.ite ?_ ?_
   | refine LeO.bind ?_ (fun _ => ?_)
set_option maxHeartbeats 8000000 in
set_option maxRecDepth 100000 in
theorem word_Get32.calls (k : Nat) (a0 : List Int) (r : Int) (w : World) (h : word_Get32.f k a0 = some r) :
  Calls Tryd.prog 79 #[.agg (Ar.cells .u8 4 a0)] w fun e w' => e = .returned (.int .u32 r) ∧ Below w.heap.size w w' := by
 have HB := Aside0.mk (Below.refl w.heap.size w)
 have H : (word_Get32.l0 k 0 a0 0) = some r := h
 clear h
 have H' := Aside0.mk H
 clear H
 go_enter Tryd.func79, Tryd.ntmps79
 go_wp2_with (first | ((with_reducible refine gate_dst (N := 1) rfl ?_); (try (refine gate_guard (by rfl) ?_; dsimp only)); refine qE (N := 1) (cs := (Ar.cells .u8 4 a0)) (t := 79) ?_; intro gb103 hg w2 hbox hb; have BK103 := Aside0.mk (hbox); have GW103 := Aside0.mk ((qe HB hg : w.heap.size ≤ gb103)); have GE103 := Aside0.mk ((qe HB hg : w.heap.size ≤ gb103)); replace HB := Aside0.mk (below_step (qs HB) hb); clear hb hbox hg) | ((with_reducible refine gate_dst (N := 5) rfl ?_); (try (refine gate_guard (by rfl) ?_; dsimp only)); refine Ar.load_event rfl (D := 5) rfl (T := 79) rfl Tryd.underlying79 (by kernel_rfl) (g := gb103) rfl (qb BK103) ?_))
 go_loopg [2, 6] k (fun kq v2 v6 w' => ∃ (x2_1 : Int) (x6_1 : Int), v2 = .int .u32 x2_1 ∧ v6 = .int .i64 x6_1 ∧ Aside0 (word_Get32.l0 kq x2_1 a0 x6_1 = some r) ∧ Aside0 (kq ≤ k) ∧ Aside0 (w'.heap[gb103]? = some (.cells (Ar.cells .u8 4 a0) 79 (0, 0))) ∧ Aside0 (Below w.heap.size w w'))
 case atStart => exact ⟨(0), (0), (by first | rfl | (simp; done) | (simp [*]; done)), (by first | rfl | (simp; done) | (simp [*]; done)), H', ⟨Nat.le_refl _⟩, ⟨by (with_reducible repeat (first | refine blk_drewN ?_ _ | refine blk_drew ?_ | refine blk_alloc ?_ _)); exact BK103.out⟩, ⟨by repeat (first | (with_reducible first | exact HB.out | apply below_alloc | apply pw_below_drewN | apply below_drew1 | refine below_set ?_ GE103.out) | exact HB.out)⟩⟩
 case round =>
  clear H'
  try clear p2
  obtain ⟨x2_1, x6_1, rfl, rfl, HA, HK1, BK103, HB⟩ := hrel
  cases gk with
  | zero => exact absurd HA.out (by simp [word_Get32.l0])
  | succ k1 =>
   have H := HA.out
   clear HA
   simp only [word_Get32.l0] at H
   by_cases c3 : x6_1 < 4
   ·rw [if_pos c3] at H
    have c3b0 : decide (x6_1 < 4) = true := decide_eq_true c3
    clear c3
    by_cases c4 : 0 ≤ x6_1
    ·rw [if_pos c4] at H
     have c4b0 : decide (0 ≤ x6_1) = true := decide_eq_true c4
     clear c4
     have H' := Aside0.mk H
     clear H
     go_wp2_with (first | ((with_reducible refine gate_dst (N := 8) rfl ?_); (try (refine gate_guard (by rfl) ?_; dsimp only)); refine Ar.vidx_event rfl (D := 8) rfl (T := 79) rfl Tryd.underlying79 (by kernel_rfl) Tryd.underlying5 (k := .u8) (n := 4) (l := a0) qg (j := x6_1) qg qo qo ?_))
     go_roundg k1
     case measure => have := HK1.out; omega
     case rel => exact ⟨(Go.bits .or .u32 ((x2_1 * 256) % 4294967296) ((Ar.get 4 a0 x6_1) % 4294967296)), (wrap64 (x6_1 + 1)), (by first | rfl | (simp; done) | (simp [*]; done)), (by first | rfl | (simp; done) | (simp [*]; done)), H', ⟨by have := HK1.out; omega⟩, ⟨by (with_reducible repeat (first | refine blk_drewN ?_ _ | refine blk_drew ?_ | refine blk_alloc ?_ _)); exact BK103.out⟩, ⟨by repeat (first | (with_reducible first | exact HB.out | apply below_alloc | apply pw_below_drewN | apply below_drew1 | refine below_set ?_ GE103.out) | exact HB.out)⟩⟩
    ·rw [if_neg c4] at H
     exact absurd H (by simp)
   ·rw [if_neg c3] at H
    have c3b0 : decide (x6_1 < 4) = false := decide_eq_false c3
    clear c3
    obtain rfl := Option.some.inj H
    go_wp2
    go_ret
    exact ⟨by first | rfl | (simp [errW_none, errW_some] <;> rfl) | (simp [*, errW_none, errW_some] <;> rfl), by repeat (first | (with_reducible first | exact HB.out | apply below_alloc | apply pw_below_drewN | apply below_drew1 | refine below_set ?_ GE103.out) | exact HB.out)⟩
def word_Rotate.f (a0 : Int) (a1 : Int) : Option (Int) := if 0 ≤ (Int.tmod (IntKind.u64.wrap (a1)) 32) then (if 0 ≤ (IntKind.u64.wrap (32 - (Int.tmod (IntKind.u64.wrap (a1)) 32))) then (some (Go.bits .or .u32 (shr .u32 a0 (Int.tmod (IntKind.u64.wrap (a1)) 32)) (shl .u32 a0 (IntKind.u64.wrap (32 - (Int.tmod (IntKind.u64.wrap (a1)) 32)))))) else (none)) else (none)
set_option maxHeartbeats 8000000 in
set_option maxRecDepth 100000 in
theorem word_Rotate.calls (a0 : Int) (a1 : Int) (r : Int) (w : World) (h : word_Rotate.f a0 a1 = some r) :
    Calls Tryd.prog 94 #[.int .u32 a0, .int .i64 a1] w fun e w' => e = .returned (.int .u32 r) ∧ Drawn0 w w' := by
  have H : (if 0 ≤ (Int.tmod (IntKind.u64.wrap (a1)) 32) then (if 0 ≤ (IntKind.u64.wrap (32 - (Int.tmod (IntKind.u64.wrap (a1)) 32))) then (some (Go.bits .or .u32 (shr .u32 a0 (Int.tmod (IntKind.u64.wrap (a1)) 32)) (shl .u32 a0 (IntKind.u64.wrap (32 - (Int.tmod (IntKind.u64.wrap (a1)) 32)))))) else (none)) else (none)) = some r := h
  clear h
  obtain ⟨ji3, hji3⟩ : ∃ j_ : Int, (Int.tmod (IntKind.u64.wrap (a1)) 32) = j_ := ⟨_, rfl⟩
  replace H : (if 0 ≤ (ji3) then (if 0 ≤ (IntKind.u64.wrap (32 - (ji3))) then (some (Go.bits .or .u32 (shr .u32 a0 (ji3)) (shl .u32 a0 (IntKind.u64.wrap (32 - (ji3)))))) else (none)) else (none)) = some r := by first | (rw [hji3] at H; exact H) | (simp only [hji3] at H ⊢; exact H)
  by_cases c4 : 0 ≤ (ji3)
  · rw [if_pos c4] at H
    have c4b0 := eq_true c4
    have c4b1 : decide (0 ≤ (ji3)) = true := decide_eq_true c4
    clear c4
    obtain ⟨ji5, hji5⟩ : ∃ j_ : Int, (shr .u32 a0 (ji3)) = j_ := ⟨_, rfl⟩
    replace H : (if 0 ≤ (IntKind.u64.wrap (32 - (ji3))) then (some (Go.bits .or .u32 (ji5) (shl .u32 a0 (IntKind.u64.wrap (32 - (ji3)))))) else (none)) = some r := by first | (rw [hji5] at H; exact H) | (simp only [hji5] at H ⊢; exact H)
    have hji5_ : (a0 / 2 ^ min (ji3).toNat 32) = ji5 := hji5
    have hji5z : (ji3) ≤ 32 → (a0 / 2 ^ (ji3).toNat) = ji5 := shr_small hji5
    obtain ⟨ji6, hji6⟩ : ∃ j_ : Int, (IntKind.u64.wrap (32 - (ji3))) = j_ := ⟨_, rfl⟩
    replace H : (if 0 ≤ (ji6) then (some (Go.bits .or .u32 (ji5) (shl .u32 a0 (ji6)))) else (none)) = some r := by first | (rw [hji6] at H; exact H) | (simp only [hji6] at H ⊢; exact H)
    by_cases c7 : 0 ≤ (ji6)
    · rw [if_pos c7] at H
      have c7b0 := eq_true c7
      have c7b1 : decide (0 ≤ (ji6)) = true := decide_eq_true c7
      clear c7
      obtain ⟨ji8, hji8⟩ : ∃ j_ : Int, (shl .u32 a0 (ji6)) = j_ := ⟨_, rfl⟩
      replace H : (some (Go.bits .or .u32 (ji5) (ji8))) = some r := by first | (rw [hji8] at H; exact H) | (simp only [hji8] at H ⊢; exact H)
      have hji8_ : (IntKind.u32.wrap (a0 * 2 ^ min (ji6).toNat 32)) = ji8 := hji8
      have hji8z : (ji6) ≤ 32 → (IntKind.u32.wrap (a0 * 2 ^ (ji6).toNat)) = ji8 := shl_small hji8
      obtain rfl := Option.some.inj H
      go_enter Tryd.func94, Tryd.ntmps94
      go_wp2
      go_ret
      exact ⟨by first | rfl | (simp; done) | (simp only [← hji3, ← hji5, ← hji6, ← hji8] <;> (first | rfl | simp)) | (simp [*]; done), by repeat (first | exact Drawn0.refl _ | apply Drawn0.step)⟩
    · rw [if_neg c7] at H
      exact absurd H (by simp)
  · rw [if_neg c4] at H
    exact absurd H (by simp)
def word_Right.f (a0 : Int) (a1 : Int) : Option (Int) := if 0 ≤ (IntKind.u64.wrap (mx a1 0)) then (some (shr .u32 a0 (IntKind.u64.wrap (mx a1 0)))) else (none)
set_option maxHeartbeats 8000000 in
set_option maxRecDepth 100000 in
theorem word_Right.calls (a0 : Int) (a1 : Int) (r : Int) (w : World) (h : word_Right.f a0 a1 = some r) :
    Calls Tryd.prog 95 #[.int .u32 a0, .int .i64 a1] w fun e w' => e = .returned (.int .u32 r) ∧ Below w.heap.size w w' := by
  have HB := Aside0.mk (Below.refl w.heap.size w)
  have H : (if 0 ≤ (IntKind.u64.wrap (mx a1 0)) then (some (shr .u32 a0 (IntKind.u64.wrap (mx a1 0)))) else (none)) = some r := h
  clear h
  obtain ⟨ji3, hji3⟩ : ∃ j_ : Int, (mx a1 0) = j_ := ⟨_, rfl⟩
  replace H : (if 0 ≤ (IntKind.u64.wrap (ji3)) then (some (shr .u32 a0 (IntKind.u64.wrap (ji3)))) else (none)) = some r := by first | (rw [hji3] at H; exact H) | (simp only [hji3] at H ⊢; exact H)
  (try (have hji3l : 0 ≤ ji3 := by (rw [← hji3]; unfold mx; (repeat' split) <;> omega)))
  (try (have hji3m : 0 ≤ ji3 := by omega))
  have hji3_ : (if a1 < 0 then 0 else a1) = ji3 := hji3
  obtain ⟨ji4, hji4⟩ : ∃ j_ : Int, (IntKind.u64.wrap (ji3)) = j_ := ⟨_, rfl⟩
  replace H : (if 0 ≤ (ji4) then (some (shr .u32 a0 (ji4))) else (none)) = some r := by first | (rw [hji4] at H; exact H) | (simp only [hji4] at H ⊢; exact H)
  by_cases c5 : 0 ≤ (ji4)
  · rw [if_pos c5] at H
    have c5b0 := eq_true c5
    have c5b1 : decide (0 ≤ (ji4)) = true := decide_eq_true c5
    clear c5
    obtain ⟨ji6, hji6⟩ : ∃ j_ : Int, (shr .u32 a0 (ji4)) = j_ := ⟨_, rfl⟩
    replace H : (some ji6) = some r := by first | (rw [hji6] at H; exact H) | (simp only [hji6] at H ⊢; exact H)
    have hji6_ : (a0 / 2 ^ min (ji4).toNat 32) = ji6 := hji6
    have hji6z : (ji4) ≤ 32 → (a0 / 2 ^ (ji4).toNat) = ji6 := shr_small hji6
    obtain rfl := Option.some.inj H
    go_enter Tryd.func95, Tryd.ntmps95
    go_wp2
    go_ret
    exact ⟨by first | rfl | (simp [errW_none, errW_some] <;> rfl) | (simp only [← hji3, ← hji4, ← hji6]; first | rfl | (simp [errW_none, errW_some] <;> rfl)) | (simp [*, errW_none, errW_some] <;> rfl), by repeat (first | (with_reducible first | exact HB.out | apply below_alloc | apply pw_below_drewN | apply below_drew1) | exact HB.out)⟩
  · rw [if_neg c5] at H
    exact absurd H (by simp)
def plan_mix.f (a0 : Int) (a1 : Int) (a2 : Int) (a3 : Int) : Option (Int) := (word_Rotate.f a0 a1).bind fun t104 => ((word_Rotate.f a0 a2).bind fun t105 => ((word_Right.f a0 a3).bind fun t106 => (some (Go.bits .xor .u32 (Go.bits .xor .u32 t104 t105) t106))))
set_option maxHeartbeats 8000000 in
set_option maxRecDepth 100000 in
theorem plan_mix.calls (a0 : Int) (a1 : Int) (a2 : Int) (a3 : Int) (r : Int) (w : World) (h : plan_mix.f a0 a1 a2 a3 = some r) :
    Calls Tryd.prog 89 #[.int .u32 a0, .int .i64 a1, .int .i64 a2, .int .i64 a3] w fun e w' => e = .returned (.int .u32 r) ∧ Below w.heap.size w w' := by
  have HB := Aside0.mk (Below.refl w.heap.size w)
  have H : ((word_Rotate.f a0 a1).bind fun t104 => ((word_Rotate.f a0 a2).bind fun t105 => ((word_Right.f a0 a3).bind fun t106 => (some (Go.bits .xor .u32 (Go.bits .xor .u32 t104 t105) t106))))) = some r := h
  clear h
  replace H := Option.bind_eq_some_iff.mp H
  obtain ⟨t104, A50, H⟩ := H
  replace H : ((word_Rotate.f a0 a2).bind fun t105 => ((word_Right.f a0 a3).bind fun t106 => (some (Go.bits .xor .u32 (Go.bits .xor .u32 t104 t105) t106)))) = some r := H
  have A5 := Aside0.mk A50
  clear A50
  replace H := Option.bind_eq_some_iff.mp H
  obtain ⟨t105, A60, H⟩ := H
  replace H : ((word_Right.f a0 a3).bind fun t106 => (some (Go.bits .xor .u32 (Go.bits .xor .u32 t104 t105) t106))) = some r := H
  have A6 := Aside0.mk A60
  clear A60
  replace H := Option.bind_eq_some_iff.mp H
  obtain ⟨t106, A70, H⟩ := H
  replace H : (some (Go.bits .xor .u32 (Go.bits .xor .u32 t104 t105) t106)) = some r := H
  have A7 := Aside0.mk A70
  clear A70
  obtain rfl := Option.some.inj H
  go_enter Tryd.func89, Tryd.ntmps89
  go_wp2_with (first | ((with_reducible refine gate_callee (f := 94) rfl ?_); refine goesL_ (some 11) rfl rfl Tryd.func94 (by kernel_rfl) rfl #[.int .u32 a0, .int .i64 a1] rfl ql ?_; (with_reducible refine (word_Rotate.calls a0 a1 t104 _ A5.out).mono ?_); rintro e w' ⟨rfl, ⟨nd, rfl⟩⟩; refine ⟨_, rfl, ?_⟩) | ((with_reducible refine gate_callee (f := 94) rfl ?_); refine goesL_ (some 14) rfl rfl Tryd.func94 (by kernel_rfl) rfl #[.int .u32 a0, .int .i64 a2] rfl ql ?_; (with_reducible refine (word_Rotate.calls a0 a2 t105 _ A6.out).mono ?_); rintro e w' ⟨rfl, ⟨nd, rfl⟩⟩; refine ⟨_, rfl, ?_⟩) | ((with_reducible refine gate_callee (f := 95) rfl ?_); refine goesL_ (some 18) rfl rfl Tryd.func95 (by kernel_rfl) rfl #[.int .u32 a0, .int .i64 a3] rfl ql ?_; (with_reducible refine (word_Right.calls a0 a3 t106 _ A7.out).mono ?_); rintro e w8 ⟨rfl, hb⟩; refine ⟨_, rfl, ?_⟩; replace HB := Aside0.mk (below_step (qs HB) hb); (try clear hb); (try clear hb2); (try clear hk); (try clear hi)))
  go_ret
  exact ⟨by first | rfl | (simp [errW_none, errW_some] <;> rfl) | (simp [*, errW_none, errW_some] <;> rfl), by repeat (first | (with_reducible first | exact HB.out | apply below_alloc | apply pw_below_drewN | apply below_drew1) | exact HB.out)⟩
def plan_Second.f (a0 : Int) : Option (Int) := (plan_mix.f a0 17 19 10).bind fun t107 => (some t107)
set_option maxHeartbeats 8000000 in
set_option maxRecDepth 100000 in
theorem plan_Second.calls (a0 : Int) (r : Int) (w : World) (h : plan_Second.f a0 = some r) :
    Calls Tryd.prog 80 #[.int .u32 a0] w fun e w' => e = .returned (.int .u32 r) ∧ Below w.heap.size w w' := by
  have HB := Aside0.mk (Below.refl w.heap.size w)
  have H : ((plan_mix.f a0 17 19 10).bind fun t107 => (some t107)) = some r := h
  clear h
  replace H := Option.bind_eq_some_iff.mp H
  obtain ⟨t107, A20, H⟩ := H
  replace H : (some t107) = some r := H
  have A2 := Aside0.mk A20
  clear A20
  obtain rfl := Option.some.inj H
  go_enter Tryd.func80, Tryd.ntmps80
  go_wp2_with (first | ((with_reducible refine gate_callee (f := 89) rfl ?_); refine goesL_ (some 4) rfl rfl Tryd.func89 (by kernel_rfl) rfl #[.int .u32 a0, .int .i64 17, .int .i64 19, .int .i64 10] rfl ql ?_; (with_reducible refine (plan_mix.calls a0 17 19 10 t107 _ A2.out).mono ?_); rintro e w3 ⟨rfl, hb⟩; refine ⟨_, rfl, ?_⟩; replace HB := Aside0.mk (below_step (qs HB) hb); (try clear hb); (try clear hb2); (try clear hk); (try clear hi)))
  go_ret
  exact ⟨by first | rfl | (simp [errW_none, errW_some] <;> rfl) | (simp [*, errW_none, errW_some] <;> rfl), by repeat (first | (with_reducible first | exact HB.out | apply below_alloc | apply pw_below_drewN | apply below_drew1) | exact HB.out)⟩
def plan_First.f (a0 : Int) : Option (Int) := (plan_mix.f a0 7 18 3).bind fun t108 => (some t108)
set_option maxHeartbeats 8000000 in
set_option maxRecDepth 100000 in
theorem plan_First.calls (a0 : Int) (r : Int) (w : World) (h : plan_First.f a0 = some r) :
    Calls Tryd.prog 81 #[.int .u32 a0] w fun e w' => e = .returned (.int .u32 r) ∧ Below w.heap.size w w' := by
  have HB := Aside0.mk (Below.refl w.heap.size w)
  have H : ((plan_mix.f a0 7 18 3).bind fun t108 => (some t108)) = some r := h
  clear h
  replace H := Option.bind_eq_some_iff.mp H
  obtain ⟨t108, A20, H⟩ := H
  replace H : (some t108) = some r := H
  have A2 := Aside0.mk A20
  clear A20
  obtain rfl := Option.some.inj H
  go_enter Tryd.func81, Tryd.ntmps81
  go_wp2_with (first | ((with_reducible refine gate_callee (f := 89) rfl ?_); refine goesL_ (some 4) rfl rfl Tryd.func89 (by kernel_rfl) rfl #[.int .u32 a0, .int .i64 7, .int .i64 18, .int .i64 3] rfl ql ?_; (with_reducible refine (plan_mix.calls a0 7 18 3 t108 _ A2.out).mono ?_); rintro e w3 ⟨rfl, hb⟩; refine ⟨_, rfl, ?_⟩; replace HB := Aside0.mk (below_step (qs HB) hb); (try clear hb); (try clear hb2); (try clear hk); (try clear hi)))
  go_ret
  exact ⟨by first | rfl | (simp [errW_none, errW_some] <;> rfl) | (simp [*, errW_none, errW_some] <;> rfl), by repeat (first | (with_reducible first | exact HB.out | apply below_alloc | apply pw_below_drewN | apply below_drew1) | exact HB.out)⟩
end Go.Proofs.YtkcdcbiobkcpmaaDoor.PA
end
section
namespace Go.Proofs.YtkcdcbiobkcpmaaDoor.PA
open Go.RowKit Go.Proofs.YtkcdcbiobkcpmaaDoorW.PrintWords Go.Proofs.YtkcdcbiobkcpmaaDoorW.PrintLast Go.Proofs.YtkcdcbiobkcpmaaDoorW.PrintMore
attribute [local go_sem] max2_int min2_int max_two min_two max_three min_three max_four min_four
set_option linter.unusedVariables false
set_option linter.unusedSimpArgs false
def plan_Of.l0 : Nat → Int → List Int → List Int → Option (List Int)
 | 0, _, _, _ => none
 | k + 1, x5, x110000, x111000 => if x5 < 64 then (if (wrap64 (4 * x5)) < 64 then (if 0 ≤ (wrap64 (4 * x5)) then (if (wrap64 (4 * x5)) ≤ (wrap64 ((wrap64 (4 * x5)) + 4)) then (if (wrap64 ((wrap64 (4 * x5)) + 4)) ≤ 64 then (if (wrap64 (4 * x5)) + 4 ≤ (wrap64 ((wrap64 (4 * x5)) + 4)) then ((word_Get32.f k (Ar.part 64 x110000 ((wrap64 (4 * x5)) : Int).toNat 4)).bind fun t111 => (if 0 ≤ x5 then (plan_Of.l0 k (wrap64 (x5 + 1)) x110000 (Ar.set 64 x111000 x5 t111)) else (none))) else (none)) else (none)) else (none)) else (none)) else (if 0 ≤ (wrap64 (x5 - 2)) then (if (wrap64 (x5 - 2)) < 64 then ((plan_Second.f (Ar.get 64 x111000 (wrap64 (x5 - 2)))).bind fun t113 => (if 0 ≤ (wrap64 (x5 - 7)) then (if (wrap64 (x5 - 7)) < 64 then (if 0 ≤ (wrap64 (x5 - 15)) then (if (wrap64 (x5 - 15)) < 64 then ((plan_First.f (Ar.get 64 x111000 (wrap64 (x5 - 15)))).bind fun t114 => (if 0 ≤ (wrap64 (x5 - 16)) then (if (wrap64 (x5 - 16)) < 64 then (if 0 ≤ x5 then (plan_Of.l0 k (wrap64 (x5 + 1)) x110000 (Ar.set 64 x111000 x5 ((((((t113 + (Ar.get 64 x111000 (wrap64 (x5 - 7)))) % 4294967296) + t114) % 4294967296) + (Ar.get 64 x111000 (wrap64 (x5 - 16)))) % 4294967296))) else (none)) else (none)) else (none))) else (none)) else (none)) else (none)) else (none))) else (none)) else (none))) else (some x111000)
def plan_Of.f (k : Nat) (a0 : List Int) : Option (List Int) := plan_Of.l0 k 0 a0 (List.replicate 64 0)
theorem plan_Of.mono_l : ∀ k, (∀ y0 y1 y2, LeO (plan_Of.l0 k y0 y1 y2) (plan_Of.l0 (k + 1) y0 y1 y2))
 | 0 => fun _ _ _ r h => by simp [plan_Of.l0] at h
 | k + 1 => by
  have ih0 := plan_Of.mono_l k
  ·intro y0 y1 y2
   unfold plan_Of.l0
   repeat' first
   | (with_reducible exact ih0 _ _ _)
   | (with_reducible exact word_Get32.mono _ _)
   | (with_reducible exact LeO.refl _)
   | (with_reducible exact LeO.none _)
   | (with_reducible refine LeO.ite ?_ ?_)
   | (with_reducible refine LeO.bind ?_ (fun _ => ?_))
   | exact ih0 _ _ _
   | exact word_Get32.mono _ _
   | exact LeO.none _
   | refine LeO.ite ?_ ?_
   | refine LeO.bind ?_ (fun _ => ?_)
theorem plan_Of.mono : ∀ a0 k, LeO (plan_Of.f k a0) (plan_Of.f (k + 1) a0) := by
 intro a0 k
 have ih0 := plan_Of.mono_l k
 unfold plan_Of.f
 repeat' first
   | (with_reducible exact ih0 _ _ _)
   | (with_reducible exact word_Get32.mono _ _)
   | (with_reducible exact LeO.refl _)
   | (with_reducible exact LeO.none _)
   | (with_reducible refine LeO.ite ?_ ?_)
   | (with_reducible refine LeO.bind ?_ (fun _ => ?_))
   | exact ih0 _ _ _
   | exact word_Get32.mono _ _
   | exact LeO.none _
   | refine LeO.ite ?_ ?_
   | refine LeO.bind ?_ (fun _ => ?_)
def plan_Of.T7 : Bool × List (List Nat × List Nat) := (true, [([], []), ([], []), ([1], [1]), ([2], [2]), ([3], [3]), ([4], [4]), ([], []), ([6], [6]), ([7], [7]), ([8], [8]), ([5, 9], [5, 9]), ([], []), ([11], [11]), ([12], [12]), ([13], [13]), ([14, 5], [14]), ([10, 15], [10, 15]), ([], []), ([17], [17]), ([18], [18]), ([19], [19]), ([16, 20], [16, 20]), ([0, 0, 1, 2, 3, 4, 5, 6, 7, 8, 9, 10, 11, 12, 13, 14, 15, 16, 17, 18, 19, 20, 21], [0]), ([22, 21, 15, 0, 1, 2, 3, 4, 5, 6, 7, 8, 9, 10, 11, 12, 13, 14, 15, 16, 17, 18, 19, 20, 21], [21, 22])])
def plan_Of.B7 : List Nat := [0, 0, 2, 6, 14, 30, 0, 64, 192, 448, 1022, 0, 2048, 6144, 14336, 30782, 65534, 0, 131072, 393216, 917504, 2097150, 4194303, 8388607]
theorem plan_Of.tab7 : rtab .any (opsOf Tryd.f65 7) = plan_Of.T7 := by kernel_rfl
theorem plan_Of.bits7 : waitsOk plan_Of.T7.2 plan_Of.B7 = true := by kernel_rfl
set_option maxHeartbeats 8000000 in
set_option maxRecDepth 100000 in
theorem plan_Of.calls (k : Nat) (a0 : List Int) (r : List Int) (w : World) (h : plan_Of.f k a0 = some r) :
  Calls Tryd.prog 65 #[.agg (Ar.cells .u8 64 a0)] w fun e w' => e = .returned (.agg (Ar.cells .u32 64 r)) ∧ Below w.heap.size w w' := by
 have HB := Aside0.mk (Below.refl w.heap.size w)
 have H : (plan_Of.l0 k 0 a0 (List.replicate 64 0)) = some r := h
 clear h
 have H' := Aside0.mk H
 clear H
 go_enter Tryd.func65, Tryd.ntmps65
 go_wp2_with (first | ((with_reducible refine gate_dst (N := 1) rfl ?_); (try (refine gate_guard (by rfl) ?_; dsimp only)); refine qE (N := 1) (cs := (Ar.cells .u8 64 a0)) (t := 78) ?_; intro gb109 hg w2 hbox hb; have BK109 := Aside0.mk (hbox); have GW109 := Aside0.mk ((qe HB hg : w.heap.size ≤ gb109)); have GE109 := Aside0.mk ((qe HB hg : w.heap.size ≤ gb109)); replace HB := Aside0.mk (below_step (qs HB) hb); clear hb hbox hg) | ((with_reducible refine gate_dst (N := 2) rfl ?_); (try (refine gate_guard (by rfl) ?_; dsimp only)); refine qE (N := 2) (cs := (Ar.cells .u32 64 (List.replicate 64 0))) (t := 95) ?_; intro gb110 hg w3 hbox hb; have BK110 := Aside0.mk (hbox); have GW110 := Aside0.mk ((qe HB hg : w.heap.size ≤ gb110)); have GE110 := Aside0.mk ((qe HB hg : w.heap.size ≤ gb110)); replace HB := Aside0.mk (below_step (qs HB) hb); have NB109_110 := Aside0.mk ((qu BK109 hg : gb109 ≠ gb110)); have NB110_109 := Aside0.mk ((qw BK109 hg : gb110 ≠ gb109)); replace BK109 := Aside0.mk (qB BK109 hb); clear hb hbox hg))
 go_loopg [5] k (fun kq v5 w' => ∃ (x5_1 : Int) (x111000_1 : List Int), v5 = .int .i64 x5_1 ∧ Aside0 (plan_Of.l0 kq x5_1 a0 x111000_1 = some r) ∧ Aside0 (kq ≤ k) ∧ Aside0 (w'.heap[gb109]? = some (.cells (Ar.cells .u8 64 a0) 78 (0, 0))) ∧ Aside0 (w'.heap[gb110]? = some (.cells (Ar.cells .u32 64 x111000_1) 95 (0, 0))) ∧ Aside0 (Below w.heap.size w w'))
 case atStart => exact ⟨(0), ((List.replicate 64 0)), (by first | rfl | (simp; done) | (simp [*]; done)), H', ⟨Nat.le_refl _⟩, ⟨by (with_reducible repeat (first | refine blk_drewN ?_ _ | refine blk_drew ?_ | refine blk_alloc ?_ _)); exact BK109.out⟩, ⟨by (with_reducible repeat (first | refine blk_drewN ?_ _ | refine blk_drew ?_ | refine blk_alloc ?_ _)); exact BK110.out⟩, ⟨by repeat (first | (with_reducible first | exact HB.out | apply below_alloc | apply pw_below_drewN | apply below_drew1 | refine below_set ?_ GE109.out | refine below_set ?_ GE110.out) | exact HB.out)⟩⟩
 case round =>
  clear H'
  try clear p2
  obtain ⟨x5_1, x111000_1, rfl, HA, HK1, BK109, BK110, HB⟩ := hrel
  cases gk with
  | zero => exact absurd HA.out (by simp [plan_Of.l0])
  | succ k1 =>
   have H := HA.out
   clear HA
   simp only [plan_Of.l0] at H
   by_cases c4 : x5_1 < 64
   ·rw [if_pos c4] at H
    have c4b0 : decide (x5_1 < 64) = true := decide_eq_true c4
    clear c4
    by_cases c5 : (wrap64 (4 * x5_1)) < 64
    ·rw [if_pos c5] at H
     have c5b0 : decide ((wrap64 (4 * x5_1)) < 64) = true := decide_eq_true c5
     clear c5
     obtain ⟨ji6, hji6⟩ : ∃ j_ : Int, (wrap64 (4 * x5_1)) = j_ := ⟨_, rfl⟩
     replace H : (if 0 ≤ (ji6) then (if (ji6) ≤ (wrap64 ((ji6) + 4)) then (if (wrap64 ((ji6) + 4)) ≤ 64 then (if (ji6) + 4 ≤ (wrap64 ((ji6) + 4)) then ((word_Get32.f k1 (Ar.part 64 a0 ((ji6) : Int).toNat 4)).bind fun t111 => (if 0 ≤ x5_1 then (plan_Of.l0 k1 (wrap64 (x5_1 + 1)) a0 (Ar.set 64 x111000_1 x5_1 t111)) else (none))) else (none)) else (none)) else (none)) else (none)) = some r := by first | (rw [hji6] at H; exact H) | (simp only [hji6] at H ⊢; exact H)
     (try rw [hji6] at c5b0)
     have hji6w : (IntKind.i64.wrap (4 * x5_1)) = ji6 := (i64_w _).trans hji6
     by_cases c7 : 0 ≤ (ji6)
     ·rw [if_pos c7] at H
      have c7b0 : decide (0 ≤ (ji6)) = true := decide_eq_true c7
      clear c7
      by_cases c8 : (ji6) ≤ (wrap64 ((ji6) + 4))
      ·rw [if_pos c8] at H
       have c8b0 : decide ((ji6) ≤ (wrap64 ((ji6) + 4))) = true := decide_eq_true c8
       clear c8
       by_cases c9 : (wrap64 ((ji6) + 4)) ≤ 64
       ·rw [if_pos c9] at H
        have c9b0 : decide ((wrap64 ((ji6) + 4)) ≤ 64) = true := decide_eq_true c9
        clear c9
        by_cases c10 : (ji6) + 4 ≤ (wrap64 ((ji6) + 4))
        ·rw [if_pos c10] at H
         have c10b0 : decide ((ji6) + 4 ≤ (wrap64 ((ji6) + 4))) = true := decide_eq_true c10
         clear c10
         replace H := Option.bind_eq_some_iff.mp H
         obtain ⟨t111, A110, H⟩ := H
         replace H : (if 0 ≤ x5_1 then (plan_Of.l0 k1 (wrap64 (x5_1 + 1)) a0 (Ar.set 64 x111000_1 x5_1 t111)) else (none)) = some r := H
         have A11 := Aside0.mk A110
         clear A110
         by_cases c12 : 0 ≤ x5_1
         ·rw [if_pos c12] at H
          have c12b0 : decide (0 ≤ x5_1) = true := decide_eq_true c12
          clear c12
          obtain ⟨y112, hy112⟩ : ∃ y_ : List Int, y_ = (Ar.set 64 x111000_1 x5_1 t111) := ⟨_, rfl⟩
          replace H : (plan_Of.l0 k1 (wrap64 (x5_1 + 1)) a0 y112) = some r := by first | (rw [hy112]; with_reducible exact H) | (have H2_ := (Option.bind_some _ _).symm.trans H; rw [hy112]; with_reducible exact H2_) | (have H2_ := (Option.bind_some _ _).symm.trans H; with_reducible exact H2_) | with_reducible exact H | (rw [hy112]; exact H) | exact H
          have Ny112 := Aside0.mk hy112
          clear hy112
          have H' := Aside0.mk H
          clear H
          go_wp2_with (first | ((with_reducible refine gate_dst (N := 16) rfl ?_); (try (refine gate_guard (by rfl) ?_; dsimp only)); refine Ar.cut_event rfl (D := 16) rfl (T := 78) rfl Tryd.underlying78 (by kernel_rfl) (g := gb109) rfl (l := (ji6)) (h := (wrap64 ((ji6) + 4))) qg qg qo qo qo qo ?_) | ((with_reducible refine gate_dst (N := 17) rfl ?_); (try (refine gate_guard (by rfl) ?_; dsimp only)); refine Ar.ptr_event rfl (D := 17) rfl (T := 79) (m := 4) rfl Tryd.underlying79 rfl (by have h1_ : (0 : Int) ≤ (ji6) := qo; have h2_ : (ji6) + 4 ≤ ((wrap64 ((ji6) + 4)) : Int) := qo; omega) ?_) | ((with_reducible refine gate_dst (N := 18) rfl ?_); (try (refine gate_guard (by rfl) ?_; dsimp only)); refine Ar.load_part_event rfl (D := 18) rfl (T := 79) (m := 4) rfl Tryd.underlying79 (by kernel_rfl) (g := gb109) (c := ((ji6) : Int).toNat) rfl (qb BK109) (by have h0_ : (0 : Int) ≤ (ji6) := qo; have h2_ : (ji6) + 4 ≤ ((wrap64 ((ji6) + 4)) : Int) := qo; have h3_ : (wrap64 ((ji6) + 4)) ≤ (64 : Int) := qo; omega) ?_) | ((with_reducible refine gate_callee (f := 79) rfl ?_); refine goesL_ (some 19) rfl rfl Tryd.func79 (by kernel_rfl) rfl #[.agg (Ar.cells .u8 4 (Ar.part 64 a0 ((ji6) : Int).toNat 4))] rfl (by (try simp only [List.map_toArray, List.map_cons, List.map_nil]); first | done | (simp only [hji6]; rfl) | rfl | (simp only [List.length_drop, List.length_take]; rfl)) ?_; (with_reducible refine (word_Get32.calls k1 (Ar.part 64 a0 ((ji6) : Int).toNat 4) t111 _ A11.out).mono ?_); rintro e w13 ⟨rfl, hb⟩; refine ⟨_, rfl, ?_⟩; replace BK109 := Aside0.mk (qB BK109 hb); replace BK110 := Aside0.mk (qB BK110 hb); replace HB := Aside0.mk (below_step (qs HB) hb); (try clear hb); (try clear hb2); (try clear hk); (try clear hi)) | ((with_reducible refine gate_dst (N := 20) rfl ?_); (try (refine gate_guard (by rfl) ?_; dsimp only)); refine Ar.idx_event rfl (D := 20) rfl (T := 95) (n := 64) rfl Tryd.underlying95 (by kernel_rfl) (g := gb110) rfl (j := x5_1) qg qo qo ?_) | ((with_reducible refine gate_store (t := 31) (p := 20) rfl ?_); refine Ar.put_event rfl rfl rfl (by kernel_rfl) (g := gb110) (j := x5_1) rfl (z := t111) qg (qb BK110) qo qo ?_; intro w14 hbk_ hg; rw [← Ny112.out] at hbk_; replace BK109 := Aside0.mk (qG BK109 hg (fun e_ => NB109_110.out (Option.some.inj e_))); replace BK110 := Aside0.mk (hbk_); replace HB := Aside0.mk (Below.grown (qs HB) hg ((below_size (qs HB))) (fun _ e_ => by cases e_; exact GE110.out)); clear hbk_ hg))
          go_roundg k1
          case measure => have := HK1.out; omega
          case rel => exact ⟨(wrap64 (x5_1 + 1)), (y112), (by first | rfl | (simp; done) | (simp [*]; done)), H', ⟨by have := HK1.out; omega⟩, ⟨by (with_reducible repeat (first | refine blk_drewN ?_ _ | refine blk_drew ?_ | refine blk_alloc ?_ _)); exact BK109.out⟩, ⟨by (with_reducible repeat (first | refine blk_drewN ?_ _ | refine blk_drew ?_ | refine blk_alloc ?_ _)); exact BK110.out⟩, ⟨by repeat (first | (with_reducible first | exact HB.out | apply below_alloc | apply pw_below_drewN | apply below_drew1 | refine below_set ?_ GE109.out | refine below_set ?_ GE110.out) | exact HB.out)⟩⟩
         ·rw [if_neg c12] at H
          exact absurd H (by simp)
        ·rw [if_neg c10] at H
         exact absurd H (by simp)
       ·rw [if_neg c9] at H
        exact absurd H (by simp)
      ·rw [if_neg c8] at H
       exact absurd H (by simp)
     ·rw [if_neg c7] at H
      exact absurd H (by simp)
    ·rw [if_neg c5] at H
     have c5b0 : decide ((wrap64 (4 * x5_1)) < 64) = false := decide_eq_false c5
     clear c5
     obtain ⟨ji15, hji15⟩ : ∃ j_ : Int, (wrap64 (x5_1 - 2)) = j_ := ⟨_, rfl⟩
     replace H : (if 0 ≤ (ji15) then (if (ji15) < 64 then ((plan_Second.f (Ar.get 64 x111000_1 (ji15))).bind fun t113 => (if 0 ≤ (wrap64 (x5_1 - 7)) then (if (wrap64 (x5_1 - 7)) < 64 then (if 0 ≤ (wrap64 (x5_1 - 15)) then (if (wrap64 (x5_1 - 15)) < 64 then ((plan_First.f (Ar.get 64 x111000_1 (wrap64 (x5_1 - 15)))).bind fun t114 => (if 0 ≤ (wrap64 (x5_1 - 16)) then (if (wrap64 (x5_1 - 16)) < 64 then (if 0 ≤ x5_1 then (plan_Of.l0 k1 (wrap64 (x5_1 + 1)) a0 (Ar.set 64 x111000_1 x5_1 ((((((t113 + (Ar.get 64 x111000_1 (wrap64 (x5_1 - 7)))) % 4294967296) + t114) % 4294967296) + (Ar.get 64 x111000_1 (wrap64 (x5_1 - 16)))) % 4294967296))) else (none)) else (none)) else (none))) else (none)) else (none)) else (none)) else (none))) else (none)) else (none)) = some r := by first | (rw [hji15] at H; exact H) | (simp only [hji15] at H ⊢; exact H)
     have hji15w : (IntKind.i64.wrap (x5_1 - 2)) = ji15 := (i64_w _).trans hji15
     by_cases c16 : 0 ≤ (ji15)
     ·rw [if_pos c16] at H
      have c16b0 : decide (0 ≤ (ji15)) = true := decide_eq_true c16
      clear c16
      by_cases c17 : (ji15) < 64
      ·rw [if_pos c17] at H
       have c17b0 : decide ((ji15) < 64) = true := decide_eq_true c17
       clear c17
       replace H := Option.bind_eq_some_iff.mp H
       obtain ⟨t113, A180, H⟩ := H
       replace H : (if 0 ≤ (wrap64 (x5_1 - 7)) then (if (wrap64 (x5_1 - 7)) < 64 then (if 0 ≤ (wrap64 (x5_1 - 15)) then (if (wrap64 (x5_1 - 15)) < 64 then ((plan_First.f (Ar.get 64 x111000_1 (wrap64 (x5_1 - 15)))).bind fun t114 => (if 0 ≤ (wrap64 (x5_1 - 16)) then (if (wrap64 (x5_1 - 16)) < 64 then (if 0 ≤ x5_1 then (plan_Of.l0 k1 (wrap64 (x5_1 + 1)) a0 (Ar.set 64 x111000_1 x5_1 ((((((t113 + (Ar.get 64 x111000_1 (wrap64 (x5_1 - 7)))) % 4294967296) + t114) % 4294967296) + (Ar.get 64 x111000_1 (wrap64 (x5_1 - 16)))) % 4294967296))) else (none)) else (none)) else (none))) else (none)) else (none)) else (none)) else (none)) = some r := H
       have A18 := Aside0.mk A180
       clear A180
       obtain ⟨ji19, hji19⟩ : ∃ j_ : Int, (wrap64 (x5_1 - 7)) = j_ := ⟨_, rfl⟩
       replace H : (if 0 ≤ (ji19) then (if (ji19) < 64 then (if 0 ≤ (wrap64 (x5_1 - 15)) then (if (wrap64 (x5_1 - 15)) < 64 then ((plan_First.f (Ar.get 64 x111000_1 (wrap64 (x5_1 - 15)))).bind fun t114 => (if 0 ≤ (wrap64 (x5_1 - 16)) then (if (wrap64 (x5_1 - 16)) < 64 then (if 0 ≤ x5_1 then (plan_Of.l0 k1 (wrap64 (x5_1 + 1)) a0 (Ar.set 64 x111000_1 x5_1 ((((((t113 + (Ar.get 64 x111000_1 (ji19))) % 4294967296) + t114) % 4294967296) + (Ar.get 64 x111000_1 (wrap64 (x5_1 - 16)))) % 4294967296))) else (none)) else (none)) else (none))) else (none)) else (none)) else (none)) else (none)) = some r := by first | (rw [hji19] at H; exact H) | (simp only [hji19] at H ⊢; exact H)
       (try rw [hji19] at A18)
       have hji19w : (IntKind.i64.wrap (x5_1 - 7)) = ji19 := (i64_w _).trans hji19
       by_cases c20 : 0 ≤ (ji19)
       ·rw [if_pos c20] at H
        have c20b0 : decide (0 ≤ (ji19)) = true := decide_eq_true c20
        clear c20
        by_cases c21 : (ji19) < 64
        ·rw [if_pos c21] at H
         have c21b0 : decide ((ji19) < 64) = true := decide_eq_true c21
         clear c21
         obtain ⟨ji22, hji22⟩ : ∃ j_ : Int, (wrap64 (x5_1 - 15)) = j_ := ⟨_, rfl⟩
         replace H : (if 0 ≤ (ji22) then (if (ji22) < 64 then ((plan_First.f (Ar.get 64 x111000_1 (ji22))).bind fun t114 => (if 0 ≤ (wrap64 (x5_1 - 16)) then (if (wrap64 (x5_1 - 16)) < 64 then (if 0 ≤ x5_1 then (plan_Of.l0 k1 (wrap64 (x5_1 + 1)) a0 (Ar.set 64 x111000_1 x5_1 ((((((t113 + (Ar.get 64 x111000_1 (ji19))) % 4294967296) + t114) % 4294967296) + (Ar.get 64 x111000_1 (wrap64 (x5_1 - 16)))) % 4294967296))) else (none)) else (none)) else (none))) else (none)) else (none)) = some r := by first | (rw [hji22] at H; exact H) | (simp only [hji22] at H ⊢; exact H)
         (try rw [hji22] at A18)
         have hji22w : (IntKind.i64.wrap (x5_1 - 15)) = ji22 := (i64_w _).trans hji22
         by_cases c23 : 0 ≤ (ji22)
         ·rw [if_pos c23] at H
          have c23b0 : decide (0 ≤ (ji22)) = true := decide_eq_true c23
          clear c23
          by_cases c24 : (ji22) < 64
          ·rw [if_pos c24] at H
           have c24b0 : decide ((ji22) < 64) = true := decide_eq_true c24
           clear c24
           replace H := Option.bind_eq_some_iff.mp H
           obtain ⟨t114, A250, H⟩ := H
           replace H : (if 0 ≤ (wrap64 (x5_1 - 16)) then (if (wrap64 (x5_1 - 16)) < 64 then (if 0 ≤ x5_1 then (plan_Of.l0 k1 (wrap64 (x5_1 + 1)) a0 (Ar.set 64 x111000_1 x5_1 ((((((t113 + (Ar.get 64 x111000_1 (ji19))) % 4294967296) + t114) % 4294967296) + (Ar.get 64 x111000_1 (wrap64 (x5_1 - 16)))) % 4294967296))) else (none)) else (none)) else (none)) = some r := H
           have A25 := Aside0.mk A250
           clear A250
           obtain ⟨ji26, hji26⟩ : ∃ j_ : Int, (wrap64 (x5_1 - 16)) = j_ := ⟨_, rfl⟩
           replace H : (if 0 ≤ (ji26) then (if (ji26) < 64 then (if 0 ≤ x5_1 then (plan_Of.l0 k1 (wrap64 (x5_1 + 1)) a0 (Ar.set 64 x111000_1 x5_1 ((((((t113 + (Ar.get 64 x111000_1 (ji19))) % 4294967296) + t114) % 4294967296) + (Ar.get 64 x111000_1 (ji26))) % 4294967296))) else (none)) else (none)) else (none)) = some r := by first | (rw [hji26] at H; exact H) | (simp only [hji26] at H ⊢; exact H)
           (try rw [hji26] at A18)
           (try rw [hji26] at A25)
           have hji26w : (IntKind.i64.wrap (x5_1 - 16)) = ji26 := (i64_w _).trans hji26
           by_cases c27 : 0 ≤ (ji26)
           ·rw [if_pos c27] at H
            have c27b0 : decide (0 ≤ (ji26)) = true := decide_eq_true c27
            clear c27
            by_cases c28 : (ji26) < 64
            ·rw [if_pos c28] at H
             have c28b0 : decide ((ji26) < 64) = true := decide_eq_true c28
             clear c28
             by_cases c29 : 0 ≤ x5_1
             ·rw [if_pos c29] at H
              have c29b0 : decide (0 ≤ x5_1) = true := decide_eq_true c29
              clear c29
              obtain ⟨y115, hy115⟩ : ∃ y_ : List Int, y_ = (Ar.set 64 x111000_1 x5_1 ((((((t113 + (Ar.get 64 x111000_1 (ji19))) % 4294967296) + t114) % 4294967296) + (Ar.get 64 x111000_1 (ji26))) % 4294967296)) := ⟨_, rfl⟩
              replace H : (plan_Of.l0 k1 (wrap64 (x5_1 + 1)) a0 y115) = some r := by first | (rw [hy115]; with_reducible exact H) | (have H2_ := (Option.bind_some _ _).symm.trans H; rw [hy115]; with_reducible exact H2_) | (have H2_ := (Option.bind_some _ _).symm.trans H; with_reducible exact H2_) | with_reducible exact H | (rw [hy115]; exact H) | exact H
              have Ny115 := Aside0.mk hy115
              clear hy115
              have H' := Aside0.mk H
              clear H
              try go_wp2
              replace BK109 := Aside0.mk (blk_drew BK109.out)
              replace BK110 := Aside0.mk (blk_drew BK110.out)
              replace HB := Aside0.mk (below_drew1 HB.out)
              have p31 : (0 ≤ ((ji15) : Int)) = True := eq_true qo
              have q31 : (((ji15) : Int) < 64) = True := eq_true qo
              have p32 : (0 ≤ ((ji19) : Int)) = True := eq_true qo
              have q32 : (((ji19) : Int) < 64) = True := eq_true qo
              have p33 : (0 ≤ ((ji22) : Int)) = True := eq_true qo
              have q33 : (((ji22) : Int) < 64) = True := eq_true qo
              have p34 : (0 ≤ ((ji26) : Int)) = True := eq_true qo
              have q34 : (((ji26) : Int) < 64) = True := eq_true qo
              refine start_ (n := 24) (S := fun w' => w'.cell? ⟨gb110, ((ji15) : Int).toNat, none⟩ = some (.int .u32 (Ar.get 64 x111000_1 (ji15))) ∧ w'.cell? ⟨gb110, ((ji19) : Int).toNat, none⟩ = some (.int .u32 (Ar.get 64 x111000_1 (ji19))) ∧ w'.cell? ⟨gb110, ((ji22) : Int).toNat, none⟩ = some (.int .u32 (Ar.get 64 x111000_1 (ji22))) ∧ w'.cell? ⟨gb110, ((ji26) : Int).toNat, none⟩ = some (.int .u32 (Ar.get 64 x111000_1 (ji26)))) (ds := [23]) #[false, false, false, false, false, false, false, false, false, false, false, false, false, false, false, false, false, false, false, false, false, false, false, false] (by kernel_rfl) rfl rfl ⟨(Ar.cell_run (j := (ji15)) BK110.out qo qo), (Ar.cell_run (j := (ji19)) BK110.out qo qo), (Ar.cell_run (j := (ji22)) BK110.out qo qo), (Ar.cell_run (j := (ji26)) BK110.out qo qo)⟩ (fun hHeld => ?_); refine with_tabW plan_Of.tab7 plan_Of.bits7 (fun HT_ HW_ => ?_)
              generalize wr.drew = w30 at BK109 BK110 HB hHeld ⊢
              refine pure_ (i := 0) (N := some 21) (v := ?_) (a' := ?_) #[true, false, false, false, false, false, false, false, false, false, false, false, false, false, false, false, false, false, false, false, false, false, false, false] rfl rfl (any_of HT_.out (by kernel_rfl)) (fun _ _ _ h => h) (Or.inl ⟨by rfl, ?_⟩) ?_ ?_
              rotate_left
              ·intro w'
               go_simp
               with_reducible rfl
              rotate_left
              ·simp only [Act.put, zA_, zB_, zC_, i64_w, i32_w]
               rfl
              refine pure_ (i := 1) (N := some 22) (v := ?_) (a' := ?_) #[true, true, false, false, false, false, false, false, false, false, false, false, false, false, false, false, false, false, false, false, false, false, false, false] rfl rfl (any_of HT_.out (by kernel_rfl)) (fun _ _ _ h => h) (Or.inl ⟨by rfl, ?_⟩) ?_ ?_
              rotate_left
              ·intro w'
               go_simp
               with_reducible rfl
              rotate_left
              ·simp only [Act.put, zA_, zB_, zC_, i64_w, i32_w]
               rfl
              refine pure_ (i := 2) (N := some 23) (v := ?_) (a' := ?_) #[true, true, true, false, false, false, false, false, false, false, false, false, false, false, false, false, false, false, false, false, false, false, false, false] rfl rfl (any_of HT_.out (by kernel_rfl)) (fun _ _ _ h => h) (Or.inl ⟨by rfl, ?_⟩) ?_ ?_
              rotate_left
              ·intro w'
               go_simp
               with_reducible rfl
              rotate_left
              ·simp only [Act.put, zA_, zB_, zC_, i64_w, i32_w]
               rfl
              refine pure_ (i := 3) (N := some 24) (v := ?_) (a' := ?_) #[true, true, true, true, false, false, false, false, false, false, false, false, false, false, false, false, false, false, false, false, false, false, false, false] rfl rfl (any_of HT_.out (by kernel_rfl)) (fun _ _ _ h => h) (Or.inl ⟨by rfl, ?_⟩) ?_ ?_
              rotate_left
              ·intro w'
               go_simp
               with_reducible rfl
              rotate_left
              ·simp only [Act.put, zA_, zB_, zC_, i64_w, i32_w]
               rfl
              refine pure_ (i := 6) (N := some 27) (v := ?_) (a' := ?_) #[true, true, true, true, false, false, true, false, false, false, false, false, false, false, false, false, false, false, false, false, false, false, false, false] rfl rfl (any_of HT_.out (by kernel_rfl)) (fun _ _ _ h => h) (Or.inl ⟨by rfl, ?_⟩) ?_ ?_
              rotate_left
              ·intro w'
               go_simp
               with_reducible rfl
              rotate_left
              ·simp only [Act.put, zA_, zB_, zC_, i64_w, i32_w]
               rfl
              refine pure_ (i := 7) (N := some 28) (v := ?_) (a' := ?_) #[true, true, true, true, false, false, true, true, false, false, false, false, false, false, false, false, false, false, false, false, false, false, false, false] rfl rfl (any_of HT_.out (by kernel_rfl)) (fun _ _ _ h => h) (Or.inl ⟨by rfl, ?_⟩) ?_ ?_
              rotate_left
              ·intro w'
               go_simp
               with_reducible rfl
              rotate_left
              ·simp only [Act.put, zA_, zB_, zC_, i64_w, i32_w]
               rfl
              refine pure_ (i := 8) (N := some 29) (v := ?_) (a' := ?_) #[true, true, true, true, false, false, true, true, true, false, false, false, false, false, false, false, false, false, false, false, false, false, false, false] rfl rfl (any_of HT_.out (by kernel_rfl)) (fun _ _ _ h => h) (Or.inl ⟨by rfl, ?_⟩) ?_ ?_
              rotate_left
              ·intro w'
               go_simp
               with_reducible rfl
              rotate_left
              ·simp only [Act.put, zA_, zB_, zC_, i64_w, i32_w]
               rfl
              refine pure_ (i := 11) (N := some 32) (v := ?_) (a' := ?_) #[true, true, true, true, false, false, true, true, true, false, false, true, false, false, false, false, false, false, false, false, false, false, false, false] rfl rfl (any_of HT_.out (by kernel_rfl)) (fun _ _ _ h => h) (Or.inl ⟨by rfl, ?_⟩) ?_ ?_
              rotate_left
              ·intro w'
               go_simp
               with_reducible rfl
              rotate_left
              ·simp only [Act.put, zA_, zB_, zC_, i64_w, i32_w]
               rfl
              refine pure_ (i := 12) (N := some 33) (v := ?_) (a' := ?_) #[true, true, true, true, false, false, true, true, true, false, false, true, true, false, false, false, false, false, false, false, false, false, false, false] rfl rfl (any_of HT_.out (by kernel_rfl)) (fun _ _ _ h => h) (Or.inl ⟨by rfl, ?_⟩) ?_ ?_
              rotate_left
              ·intro w'
               go_simp
               with_reducible rfl
              rotate_left
              ·simp only [Act.put, zA_, zB_, zC_, i64_w, i32_w]
               rfl
              refine pure_ (i := 13) (N := some 34) (v := ?_) (a' := ?_) #[true, true, true, true, false, false, true, true, true, false, false, true, true, true, false, false, false, false, false, false, false, false, false, false] rfl rfl (any_of HT_.out (by kernel_rfl)) (fun _ _ _ h => h) (Or.inl ⟨by rfl, ?_⟩) ?_ ?_
              rotate_left
              ·intro w'
               go_simp
               with_reducible rfl
              rotate_left
              ·simp only [Act.put, zA_, zB_, zC_, i64_w, i32_w]
               rfl
              refine pure_ (i := 17) (N := some 38) (v := ?_) (a' := ?_) #[true, true, true, true, false, false, true, true, true, false, false, true, true, true, false, false, false, true, false, false, false, false, false, false] rfl rfl (any_of HT_.out (by kernel_rfl)) (fun _ _ _ h => h) (Or.inl ⟨by rfl, ?_⟩) ?_ ?_
              rotate_left
              ·intro w'
               go_simp
               with_reducible rfl
              rotate_left
              ·simp only [Act.put, zA_, zB_, zC_, i64_w, i32_w]
               rfl
              refine pure_ (i := 18) (N := some 39) (v := ?_) (a' := ?_) #[true, true, true, true, false, false, true, true, true, false, false, true, true, true, false, false, false, true, true, false, false, false, false, false] rfl rfl (any_of HT_.out (by kernel_rfl)) (fun _ _ _ h => h) (Or.inl ⟨by rfl, ?_⟩) ?_ ?_
              rotate_left
              ·intro w'
               go_simp
               with_reducible rfl
              rotate_left
              ·simp only [Act.put, zA_, zB_, zC_, i64_w, i32_w]
               rfl
              refine pure_ (i := 19) (N := some 40) (v := ?_) (a' := ?_) #[true, true, true, true, false, false, true, true, true, false, false, true, true, true, false, false, false, true, true, true, false, false, false, false] rfl rfl (any_of HT_.out (by kernel_rfl)) (fun _ _ _ h => h) (Or.inl ⟨by rfl, ?_⟩) ?_ ?_
              rotate_left
              ·intro w'
               go_simp
               with_reducible rfl
              rotate_left
              ·simp only [Act.put, zA_, zB_, zC_, i64_w, i32_w]
               rfl
              refine take_ (i := 4) (N := some 25) (v := ?_) (a' := ?_) #[true, true, true, true, true, false, true, true, true, false, false, true, true, true, false, false, false, true, true, true, false, false, false, false] rfl rfl (take_ofW HT_.out HW_.out (by kernel_rfl)) (fun _ _ _ h => h) (Or.inl ⟨by rfl, ?_⟩) hHeld ?_ ?_
              rotate_left
              ·rintro w' ⟨s0, s1, s2, s3⟩
               go_simp
               with_reducible rfl
              rotate_left
              ·simp only [Act.put, zA_, zB_, zC_, i64_w, i32_w]
               rfl
              refine take_ (i := 9) (N := some 30) (v := ?_) (a' := ?_) #[true, true, true, true, true, false, true, true, true, true, false, true, true, true, false, false, false, true, true, true, false, false, false, false] rfl rfl (take_ofW HT_.out HW_.out (by kernel_rfl)) (fun _ _ _ h => h) (Or.inl ⟨by rfl, ?_⟩) hHeld ?_ ?_
              rotate_left
              ·rintro w' ⟨s0, s1, s2, s3⟩
               go_simp
               with_reducible rfl
              rotate_left
              ·simp only [Act.put, zA_, zB_, zC_, i64_w, i32_w]
               rfl
              refine take_ (i := 14) (N := some 35) (v := ?_) (a' := ?_) #[true, true, true, true, true, false, true, true, true, true, false, true, true, true, true, false, false, true, true, true, false, false, false, false] rfl rfl (take_ofW HT_.out HW_.out (by kernel_rfl)) (fun _ _ _ h => h) (Or.inl ⟨by rfl, ?_⟩) hHeld ?_ ?_
              rotate_left
              ·rintro w' ⟨s0, s1, s2, s3⟩
               go_simp
               with_reducible rfl
              rotate_left
              ·simp only [Act.put, zA_, zB_, zC_, i64_w, i32_w]
               rfl
              refine take_ (i := 20) (N := some 41) (v := ?_) (a' := ?_) #[true, true, true, true, true, false, true, true, true, true, false, true, true, true, true, false, false, true, true, true, true, false, false, false] rfl rfl (take_ofW HT_.out HW_.out (by kernel_rfl)) (fun _ _ _ h => h) (Or.inl ⟨by rfl, ?_⟩) hHeld ?_ ?_
              rotate_left
              ·rintro w' ⟨s0, s1, s2, s3⟩
               go_simp
               with_reducible rfl
              rotate_left
              ·simp only [Act.put, zA_, zB_, zC_, i64_w, i32_w]
               rfl
              refine one_ (i := 5) (N := some 26) #[true, true, true, true, true, true, true, true, true, true, false, true, true, true, true, false, false, true, true, true, true, false, false, false] rfl rfl (one_of HT_.out (by kernel_rfl)) (by decide) (fun K hK => ?_)
              refine goes_ Tryd.func80 (by kernel_rfl) rfl #[.int .u32 (Ar.get 64 x111000_1 (ji15))] (by rfl) rfl rfl (by (try simp only [List.map_toArray, List.map_cons, List.map_nil]); first | done | (simp only [hji15]; rfl) | rfl | (simp only [List.length_drop, List.length_take]; rfl)) ?_
              with_reducible refine (plan_Second.calls (Ar.get 64 x111000_1 (ji15)) t113 _ A18.out).mono ?_
              rintro e w35 ⟨rfl, hb⟩
              refine ⟨_, rfl, ?_⟩
              replace BK109 := Aside0.mk (qB BK109 hb)
              replace BK110 := Aside0.mk (qB BK110 hb)
              replace HB := Aside0.mk (below_step (qs HB) hb)
              (try clear hb)
              (try clear hb2)
              (try clear hk)
              (try clear hi)
              refine hK.out _ _ ⟨(Ar.cell_run (j := (ji15)) BK110.out qo qo), (Ar.cell_run (j := (ji19)) BK110.out qo qo), (Ar.cell_run (j := (ji22)) BK110.out qo qo), (Ar.cell_run (j := (ji26)) BK110.out qo qo)⟩ (fun hHeld => ?_)
              clear hK K
              refine norm_ (a' := ?_) ?_ ?_
              rotate_left
              ·show Act.put _ (some 26) _ = _
               simp only [Act.put, zA_, zB_, zC_, i64_w, i32_w]
               rfl
              refine pure_ (i := 10) (N := some 31) (v := ?_) (a' := ?_) #[true, true, true, true, true, true, true, true, true, true, true, true, true, true, true, false, false, true, true, true, true, false, false, false] rfl rfl (any_of HT_.out (by kernel_rfl)) (fun _ _ _ h => h) (Or.inl ⟨by rfl, ?_⟩) ?_ ?_
              rotate_left
              ·intro w'
               go_simp
               with_reducible rfl
              rotate_left
              ·simp only [Act.put, zA_, zB_, zC_, i64_w, i32_w]
               rfl
              refine one_ (i := 15) (N := some 36) #[true, true, true, true, true, true, true, true, true, true, true, true, true, true, true, true, false, true, true, true, true, false, false, false] rfl rfl (one_of HT_.out (by kernel_rfl)) (by decide) (fun K hK => ?_)
              refine goes_ Tryd.func81 (by kernel_rfl) rfl #[.int .u32 (Ar.get 64 x111000_1 (ji22))] (by rfl) rfl rfl (by (try simp only [List.map_toArray, List.map_cons, List.map_nil]); first | done | (simp only [hji22]; rfl) | rfl | (simp only [List.length_drop, List.length_take]; rfl)) ?_
              with_reducible refine (plan_First.calls (Ar.get 64 x111000_1 (ji22)) t114 _ A25.out).mono ?_
              rintro e w36 ⟨rfl, hb⟩
              refine ⟨_, rfl, ?_⟩
              replace BK109 := Aside0.mk (qB BK109 hb)
              replace BK110 := Aside0.mk (qB BK110 hb)
              replace HB := Aside0.mk (below_step (qs HB) hb)
              (try clear hb)
              (try clear hb2)
              (try clear hk)
              (try clear hi)
              have p37 : (0 ≤ (x5_1 : Int)) = True := eq_true qo
              have q37 : ((x5_1 : Int) < 64) = True := eq_true qo
              refine hK.out _ _ ⟨(Ar.cell_run (j := (ji15)) BK110.out qo qo), (Ar.cell_run (j := (ji19)) BK110.out qo qo), (Ar.cell_run (j := (ji22)) BK110.out qo qo), (Ar.cell_run (j := (ji26)) BK110.out qo qo)⟩ (fun hHeld => ?_)
              clear hK K
              refine norm_ (a' := ?_) ?_ ?_
              rotate_left
              ·show Act.put _ (some 36) _ = _
               simp only [Act.put, zA_, zB_, zC_, i64_w, i32_w]
               rfl
              refine pure_ (i := 16) (N := some 37) (v := ?_) (a' := ?_) #[true, true, true, true, true, true, true, true, true, true, true, true, true, true, true, true, true, true, true, true, true, false, false, false] rfl rfl (any_of HT_.out (by kernel_rfl)) (fun _ _ _ h => h) (Or.inl ⟨by rfl, ?_⟩) ?_ ?_
              rotate_left
              ·intro w'
               go_simp
               with_reducible rfl
              rotate_left
              ·simp only [Act.put, zA_, zB_, zC_, i64_w, i32_w]
               rfl
              refine pure_ (i := 21) (N := some 42) (v := ?_) (a' := ?_) #[true, true, true, true, true, true, true, true, true, true, true, true, true, true, true, true, true, true, true, true, true, true, false, false] rfl rfl (any_of HT_.out (by kernel_rfl)) (fun _ _ _ h => h) (Or.inl ⟨by rfl, ?_⟩) ?_ ?_
              rotate_left
              ·intro w'
               go_simp
               with_reducible rfl
              rotate_left
              ·simp only [Act.put, zA_, zB_, zC_, i64_w, i32_w]
               rfl
              refine pure_ (i := 22) (N := some 43) (v := ?_) (a' := ?_) #[true, true, true, true, true, true, true, true, true, true, true, true, true, true, true, true, true, true, true, true, true, true, true, false] rfl rfl (any_of HT_.out (by kernel_rfl)) (fun _ _ _ h => h) (Or.inl ⟨by rfl, ?_⟩) ?_ ?_
              rotate_left
              ·intro w'
               go_simp
               with_reducible rfl
              rotate_left
              ·simp only [Act.put, zA_, zB_, zC_, i64_w, i32_w]
               rfl
              refine last_ (i := 23) (N := none) #[true, true, true, true, true, true, true, true, true, true, true, true, true, true, true, true, true, true, true, true, true, true, true, true] rfl rfl (one_of HT_.out (by kernel_rfl)) (by decide) (fun K hK => ?_)
              refine Ar.put_step (by rfl) rfl rfl (by kernel_rfl) (g := gb110) (j := x5_1) rfl (z := ((((((t113 + (Ar.get 64 x111000_1 (ji19))) % 4294967296) + t114) % 4294967296) + (Ar.get 64 x111000_1 (ji26))) % 4294967296)) qg (qb BK110) qo qo ?_; intro w38 hbk_ hg
              rw [← Ny115.out] at hbk_
              replace BK109 := Aside0.mk (qG BK109 hg (fun e_ => NB109_110.out (Option.some.inj e_)))
              replace BK110 := Aside0.mk (hbk_)
              replace HB := Aside0.mk (Below.grown (qs HB) hg ((below_size (qs HB))) (fun _ e_ => by cases e_; exact GE110.out))
              clear hbk_ hg
              refine hK.out _ _ ?_
              clear hK K
              refine done_ (done_of HT_.out (by kernel_rfl)) ?_
              try go_wp2
              go_roundg k1
              case measure => have := HK1.out; omega
              case rel => exact ⟨(wrap64 (x5_1 + 1)), (y115), (by first | rfl | (simp; done) | (simp [*]; done)), H', ⟨by have := HK1.out; omega⟩, ⟨by (with_reducible repeat (first | refine blk_drewN ?_ _ | refine blk_drew ?_ | refine blk_alloc ?_ _)); exact BK109.out⟩, ⟨by (with_reducible repeat (first | refine blk_drewN ?_ _ | refine blk_drew ?_ | refine blk_alloc ?_ _)); exact BK110.out⟩, ⟨by repeat (first | (with_reducible first | exact HB.out | apply below_alloc | apply pw_below_drewN | apply below_drew1 | refine below_set ?_ GE109.out | refine below_set ?_ GE110.out) | exact HB.out)⟩⟩
             ·rw [if_neg c29] at H
              exact absurd H (by simp)
            ·rw [if_neg c28] at H
             exact absurd H (by simp)
           ·rw [if_neg c27] at H
            exact absurd H (by simp)
          ·rw [if_neg c24] at H
           exact absurd H (by simp)
         ·rw [if_neg c23] at H
          exact absurd H (by simp)
        ·rw [if_neg c21] at H
         exact absurd H (by simp)
       ·rw [if_neg c20] at H
        exact absurd H (by simp)
      ·rw [if_neg c17] at H
       exact absurd H (by simp)
     ·rw [if_neg c16] at H
      exact absurd H (by simp)
   ·rw [if_neg c4] at H
    have c4b0 : decide (x5_1 < 64) = false := decide_eq_false c4
    clear c4
    obtain rfl := Option.some.inj H
    go_wp2_with (first | ((with_reducible refine gate_dst (N := 45) rfl ?_); (try (refine gate_guard (by rfl) ?_; dsimp only)); refine Ar.load_event rfl (D := 45) rfl (T := 95) rfl Tryd.underlying95 (by kernel_rfl) (g := gb110) rfl (qb BK110) ?_) | ((with_reducible refine gate_store (t := 95) (p := 2) rfl ?_); refine Ar.store_all_event rfl rfl rfl Tryd.underlying95 (by kernel_rfl) (g := gb110) rfl (z := x111000_1) qg (qb BK110) ?_; intro w39 hbk_ hg; replace BK109 := Aside0.mk (qG BK109 hg (fun e_ => NB109_110.out (Option.some.inj e_))); replace BK110 := Aside0.mk (hbk_); replace HB := Aside0.mk (Below.grown (qs HB) hg ((below_size (qs HB))) (fun _ e_ => by cases e_; exact GE110.out)); clear hbk_ hg))
    refine bodyPost_ret (results_cell_row rfl _ _ gb110 95 (Ar.cells .u32 64 x111000_1) (0, 0) _ rfl (qb BK110) Tryd.underlying95 rfl qZ) rfl ?_
    exact ⟨by first | rfl | (simp [errW_none, errW_some] <;> rfl) | (simp [*, errW_none, errW_some] <;> rfl), by repeat (first | (with_reducible first | exact HB.out | apply below_alloc | apply pw_below_drewN | apply below_drew1 | refine below_set ?_ GE109.out | refine below_set ?_ GE110.out) | exact HB.out)⟩
def comp_mix.f (a0 : Int) (a1 : Int) (a2 : Int) (a3 : Int) : Option (Int) := (word_Rotate.f a0 a1).bind fun t116 => ((word_Rotate.f a0 a2).bind fun t117 => ((word_Rotate.f a0 a3).bind fun t118 => (some (Go.bits .xor .u32 (Go.bits .xor .u32 t116 t117) t118))))
set_option maxHeartbeats 8000000 in
set_option maxRecDepth 100000 in
theorem comp_mix.calls (a0 : Int) (a1 : Int) (a2 : Int) (a3 : Int) (r : Int) (w : World) (h : comp_mix.f a0 a1 a2 a3 = some r) :
    Calls Tryd.prog 90 #[.int .u32 a0, .int .i64 a1, .int .i64 a2, .int .i64 a3] w fun e w' => e = .returned (.int .u32 r) ∧ Drawn0 w w' := by
  have H : ((word_Rotate.f a0 a1).bind fun t116 => ((word_Rotate.f a0 a2).bind fun t117 => ((word_Rotate.f a0 a3).bind fun t118 => (some (Go.bits .xor .u32 (Go.bits .xor .u32 t116 t117) t118))))) = some r := h
  clear h
  replace H := Option.bind_eq_some_iff.mp H
  obtain ⟨t116, A50, H⟩ := H
  replace H : ((word_Rotate.f a0 a2).bind fun t117 => ((word_Rotate.f a0 a3).bind fun t118 => (some (Go.bits .xor .u32 (Go.bits .xor .u32 t116 t117) t118)))) = some r := H
  have A5 := Aside0.mk A50
  clear A50
  replace H := Option.bind_eq_some_iff.mp H
  obtain ⟨t117, A60, H⟩ := H
  replace H : ((word_Rotate.f a0 a3).bind fun t118 => (some (Go.bits .xor .u32 (Go.bits .xor .u32 t116 t117) t118))) = some r := H
  have A6 := Aside0.mk A60
  clear A60
  replace H := Option.bind_eq_some_iff.mp H
  obtain ⟨t118, A70, H⟩ := H
  replace H : (some (Go.bits .xor .u32 (Go.bits .xor .u32 t116 t117) t118)) = some r := H
  have A7 := Aside0.mk A70
  clear A70
  obtain rfl := Option.some.inj H
  go_enter Tryd.func90, Tryd.ntmps90
  go_wp2_with (first | ((with_reducible refine gate_callee (f := 94) rfl ?_); refine goesL_ (some 11) rfl rfl Tryd.func94 (by kernel_rfl) rfl #[.int .u32 a0, .int .i64 a1] rfl ql ?_; (with_reducible refine (word_Rotate.calls a0 a1 t116 _ A5.out).mono ?_); rintro e w' ⟨rfl, ⟨nd, rfl⟩⟩; refine ⟨_, rfl, ?_⟩) | ((with_reducible refine gate_callee (f := 94) rfl ?_); refine goesL_ (some 14) rfl rfl Tryd.func94 (by kernel_rfl) rfl #[.int .u32 a0, .int .i64 a2] rfl ql ?_; (with_reducible refine (word_Rotate.calls a0 a2 t117 _ A6.out).mono ?_); rintro e w' ⟨rfl, ⟨nd, rfl⟩⟩; refine ⟨_, rfl, ?_⟩) | ((with_reducible refine gate_callee (f := 94) rfl ?_); refine goesL_ (some 18) rfl rfl Tryd.func94 (by kernel_rfl) rfl #[.int .u32 a0, .int .i64 a3] rfl ql ?_; (with_reducible refine (word_Rotate.calls a0 a3 t118 _ A7.out).mono ?_); rintro e w' ⟨rfl, ⟨nd, rfl⟩⟩; refine ⟨_, rfl, ?_⟩))
  go_ret
  exact ⟨by first | rfl | (simp; done) | (simp [*]; done), by repeat (first | exact Drawn0.refl _ | apply Drawn0.step)⟩
def comp_low.f (a0 : Int) (a1 : Int) (a2 : Int) : Option (Int) := (comp_mix.f a0 6 11 25).bind fun t119 => (some ((t119 + (Go.bits .xor .u32 (Go.bits .and .u32 a0 a1) (Go.bits .and .u32 (Go.bits .xor .u32 4294967295 a0) a2))) % 4294967296))
set_option maxHeartbeats 8000000 in
set_option maxRecDepth 100000 in
theorem comp_low.calls (a0 : Int) (a1 : Int) (a2 : Int) (r : Int) (w : World) (h : comp_low.f a0 a1 a2 = some r) :
    Calls Tryd.prog 82 #[.int .u32 a0, .int .u32 a1, .int .u32 a2] w fun e w' => e = .returned (.int .u32 r) ∧ Drawn0 w w' := by
  have H : ((comp_mix.f a0 6 11 25).bind fun t119 => (some ((t119 + (Go.bits .xor .u32 (Go.bits .and .u32 a0 a1) (Go.bits .and .u32 (Go.bits .xor .u32 4294967295 a0) a2))) % 4294967296))) = some r := h
  clear h
  replace H := Option.bind_eq_some_iff.mp H
  obtain ⟨t119, A40, H⟩ := H
  replace H : (some ((t119 + (Go.bits .xor .u32 (Go.bits .and .u32 a0 a1) (Go.bits .and .u32 (Go.bits .xor .u32 4294967295 a0) a2))) % 4294967296)) = some r := H
  have A4 := Aside0.mk A40
  clear A40
  obtain rfl := Option.some.inj H
  go_enter Tryd.func82, Tryd.ntmps82
  go_wp2_with (first | ((with_reducible refine gate_callee (f := 90) rfl ?_); refine goesL_ (some 8) rfl rfl Tryd.func90 (by kernel_rfl) rfl #[.int .u32 a0, .int .i64 6, .int .i64 11, .int .i64 25] rfl ql ?_; (with_reducible refine (comp_mix.calls a0 6 11 25 t119 _ A4.out).mono ?_); rintro e w' ⟨rfl, ⟨nd, rfl⟩⟩; refine ⟨_, rfl, ?_⟩))
  go_ret
  exact ⟨by first | rfl | (simp; done) | (simp [*]; done), by repeat (first | exact Drawn0.refl _ | apply Drawn0.step)⟩
def comp_high.f (a0 : Int) (a1 : Int) (a2 : Int) : Option (Int) := (comp_mix.f a0 2 13 22).bind fun t120 => (some ((t120 + (Go.bits .xor .u32 (Go.bits .xor .u32 (Go.bits .and .u32 a0 a1) (Go.bits .and .u32 a0 a2)) (Go.bits .and .u32 a1 a2))) % 4294967296))
set_option maxHeartbeats 8000000 in
set_option maxRecDepth 100000 in
theorem comp_high.calls (a0 : Int) (a1 : Int) (a2 : Int) (r : Int) (w : World) (h : comp_high.f a0 a1 a2 = some r) :
    Calls Tryd.prog 83 #[.int .u32 a0, .int .u32 a1, .int .u32 a2] w fun e w' => e = .returned (.int .u32 r) ∧ Drawn0 w w' := by
  have H : ((comp_mix.f a0 2 13 22).bind fun t120 => (some ((t120 + (Go.bits .xor .u32 (Go.bits .xor .u32 (Go.bits .and .u32 a0 a1) (Go.bits .and .u32 a0 a2)) (Go.bits .and .u32 a1 a2))) % 4294967296))) = some r := h
  clear h
  replace H := Option.bind_eq_some_iff.mp H
  obtain ⟨t120, A40, H⟩ := H
  replace H : (some ((t120 + (Go.bits .xor .u32 (Go.bits .xor .u32 (Go.bits .and .u32 a0 a1) (Go.bits .and .u32 a0 a2)) (Go.bits .and .u32 a1 a2))) % 4294967296)) = some r := H
  have A4 := Aside0.mk A40
  clear A40
  obtain rfl := Option.some.inj H
  go_enter Tryd.func83, Tryd.ntmps83
  go_wp2_with (first | ((with_reducible refine gate_callee (f := 90) rfl ?_); refine goesL_ (some 8) rfl rfl Tryd.func90 (by kernel_rfl) rfl #[.int .u32 a0, .int .i64 2, .int .i64 13, .int .i64 22] rfl ql ?_; (with_reducible refine (comp_mix.calls a0 2 13 22 t120 _ A4.out).mono ?_); rintro e w' ⟨rfl, ⟨nd, rfl⟩⟩; refine ⟨_, rfl, ?_⟩))
  go_ret
  exact ⟨by first | rfl | (simp; done) | (simp [*]; done), by repeat (first | exact Drawn0.refl _ | apply Drawn0.step)⟩
def comp_Round.f (a0 : List Int) (a1 : Int) (a2 : Int) : Option (List Int) := (comp_low.f (Ar.get 8 a0 4) (Ar.get 8 a0 5) (Ar.get 8 a0 6)).bind fun t123 => ((comp_high.f (Ar.get 8 a0 0) (Ar.get 8 a0 1) (Ar.get 8 a0 2)).bind fun t125 => ((some (Ar.set 8 (Ar.putAll 8 (List.replicate 8 0) 1 (Ar.part 8 a0 0 7)) 0 (((((((((Ar.get 8 a0 7) + t123) % 4294967296) + a2) % 4294967296) + a1) % 4294967296) + t125) % 4294967296) : List Int)).bind fun y126 => (some (Ar.set 8 y126 4 (((Ar.get 8 y126 4) + (((((((Ar.get 8 a0 7) + t123) % 4294967296) + a2) % 4294967296) + a1) % 4294967296)) % 4294967296)))))
def comp_Round.T1 : Bool × List (List Nat × List Nat) := (true, [([], []), ([0], [0]), ([], []), ([2], [2]), ([], []), ([4], [4]), ([], []), ([6], [6]), ([3, 5, 7], [3, 5, 7]), ([1, 8], [1, 8]), ([], []), ([9, 10], [9, 10]), ([], []), ([11, 12], [11, 12]), ([13, 8, 0, 1, 2, 3, 4, 5, 6, 7, 8, 9, 10, 11, 12, 13], [13])])
def comp_Round.B1 : List Nat := [0, 1, 0, 4, 0, 16, 0, 64, 252, 511, 0, 2047, 0, 8191, 16383]
theorem comp_Round.tab1 : rtab .any (opsOf Tryd.f66 1) = comp_Round.T1 := by kernel_rfl
theorem comp_Round.bits1 : waitsOk comp_Round.T1.2 comp_Round.B1 = true := by kernel_rfl
set_option maxHeartbeats 8000000 in
set_option maxRecDepth 100000 in
theorem comp_Round.calls (a0 : List Int) (a1 : Int) (a2 : Int) (r : List Int) (w : World) (h : comp_Round.f a0 a1 a2 = some r) :
  Calls Tryd.prog 66 #[.agg (Ar.cells .u32 8 a0), .int .u32 a1, .int .u32 a2] w fun e w' => e = .returned (.agg (Ar.cells .u32 8 r)) ∧ Below w.heap.size w w' := by
 have HB := Aside0.mk (Below.refl w.heap.size w)
 have H : ((comp_low.f (Ar.get 8 a0 4) (Ar.get 8 a0 5) (Ar.get 8 a0 6)).bind fun t123 => ((comp_high.f (Ar.get 8 a0 0) (Ar.get 8 a0 1) (Ar.get 8 a0 2)).bind fun t125 => ((some (Ar.set 8 (Ar.putAll 8 (List.replicate 8 0) 1 (Ar.part 8 a0 0 7)) 0 (((((((((Ar.get 8 a0 7) + t123) % 4294967296) + a2) % 4294967296) + a1) % 4294967296) + t125) % 4294967296) : List Int)).bind fun y126 => (some (Ar.set 8 y126 4 (((Ar.get 8 y126 4) + (((((((Ar.get 8 a0 7) + t123) % 4294967296) + a2) % 4294967296) + a1) % 4294967296)) % 4294967296)))))) = some r := h
 clear h
 replace H := Option.bind_eq_some_iff.mp H
 obtain ⟨t123, A40, H⟩ := H
 replace H : ((comp_high.f (Ar.get 8 a0 0) (Ar.get 8 a0 1) (Ar.get 8 a0 2)).bind fun t125 => ((some (Ar.set 8 (Ar.putAll 8 (List.replicate 8 0) 1 (Ar.part 8 a0 0 7)) 0 (((((((((Ar.get 8 a0 7) + t123) % 4294967296) + a2) % 4294967296) + a1) % 4294967296) + t125) % 4294967296) : List Int)).bind fun y126 => (some (Ar.set 8 y126 4 (((Ar.get 8 y126 4) + (((((((Ar.get 8 a0 7) + t123) % 4294967296) + a2) % 4294967296) + a1) % 4294967296)) % 4294967296))))) = some r := H
 have A4 := Aside0.mk A40
 clear A40
 obtain ⟨y124, hy124⟩ : ∃ y_ : List Int, y_ = (Ar.putAll 8 (List.replicate 8 0) 1 (Ar.part 8 a0 0 7)) := ⟨_, rfl⟩
 replace H : ((comp_high.f (Ar.get 8 a0 0) (Ar.get 8 a0 1) (Ar.get 8 a0 2)).bind fun t125 => ((some (Ar.set 8 y124 0 (((((((((Ar.get 8 a0 7) + t123) % 4294967296) + a2) % 4294967296) + a1) % 4294967296) + t125) % 4294967296) : List Int)).bind fun y126 => (some (Ar.set 8 y126 4 (((Ar.get 8 y126 4) + (((((((Ar.get 8 a0 7) + t123) % 4294967296) + a2) % 4294967296) + a1) % 4294967296)) % 4294967296))))) = some r := by first | (rw [hy124]; with_reducible exact H) | (have H2_ := (Option.bind_some _ _).symm.trans H; rw [hy124]; with_reducible exact H2_) | (have H2_ := (Option.bind_some _ _).symm.trans H; with_reducible exact H2_) | with_reducible exact H | (rw [hy124]; exact H) | exact H
 have Ny124 := Aside0.mk hy124
 clear hy124
 replace H := Option.bind_eq_some_iff.mp H
 obtain ⟨t125, A50, H⟩ := H
 replace H : ((some (Ar.set 8 y124 0 (((((((((Ar.get 8 a0 7) + t123) % 4294967296) + a2) % 4294967296) + a1) % 4294967296) + t125) % 4294967296) : List Int)).bind fun y126 => (some (Ar.set 8 y126 4 (((Ar.get 8 y126 4) + (((((((Ar.get 8 a0 7) + t123) % 4294967296) + a2) % 4294967296) + a1) % 4294967296)) % 4294967296)))) = some r := H
 have A5 := Aside0.mk A50
 clear A50
 obtain ⟨y126, hy126⟩ : ∃ y_ : List Int, y_ = (Ar.set 8 y124 0 (((((((((Ar.get 8 a0 7) + t123) % 4294967296) + a2) % 4294967296) + a1) % 4294967296) + t125) % 4294967296)) := ⟨_, rfl⟩
 replace H : (some (Ar.set 8 y126 4 (((Ar.get 8 y126 4) + (((((((Ar.get 8 a0 7) + t123) % 4294967296) + a2) % 4294967296) + a1) % 4294967296)) % 4294967296))) = some r := by first | (rw [hy126]; with_reducible exact H) | (have H2_ := (Option.bind_some _ _).symm.trans H; rw [hy126]; with_reducible exact H2_) | (have H2_ := (Option.bind_some _ _).symm.trans H; with_reducible exact H2_) | with_reducible exact H | (rw [hy126]; exact H) | exact H
 have Ny126 := Aside0.mk hy126
 clear hy126
 obtain ⟨y127, hy127⟩ : ∃ y_ : List Int, y_ = (Ar.set 8 y126 4 (((Ar.get 8 y126 4) + (((((((Ar.get 8 a0 7) + t123) % 4294967296) + a2) % 4294967296) + a1) % 4294967296)) % 4294967296)) := ⟨_, rfl⟩
 replace H : (some y127) = some r := by first | (rw [hy127]; with_reducible exact H) | (have H2_ := (Option.bind_some _ _).symm.trans H; rw [hy127]; with_reducible exact H2_) | (have H2_ := (Option.bind_some _ _).symm.trans H; with_reducible exact H2_) | with_reducible exact H | (rw [hy127]; exact H) | exact H
 have Ny127 := Aside0.mk hy127
 clear hy127
 obtain rfl := Option.some.inj H
 go_enter Tryd.func66, Tryd.ntmps66
 try go_wp2_with (first | ((with_reducible refine gate_dst (N := 3) rfl ?_); (try (refine gate_guard (by rfl) ?_; dsimp only)); refine qE (N := 3) (cs := (Ar.cells .u32 8 a0)) (t := 33) ?_; intro gb121 hg w6 hbox hb; have BK121 := Aside0.mk (hbox); have GW121 := Aside0.mk ((qe HB hg : w.heap.size ≤ gb121)); have GE121 := Aside0.mk ((qe HB hg : w.heap.size ≤ gb121)); replace HB := Aside0.mk (below_step (qs HB) hb); clear hb hbox hg) | ((with_reducible refine gate_dst (N := 6) rfl ?_); (try (refine gate_guard (by rfl) ?_; dsimp only)); refine qE (N := 6) (cs := (Ar.cells .u32 8 (List.replicate 8 0))) (t := 33) ?_; intro gb122 hg w7 hbox hb; have BK122 := Aside0.mk (hbox); have GW122 := Aside0.mk ((qe HB hg : w.heap.size ≤ gb122)); have GE122 := Aside0.mk ((qe HB hg : w.heap.size ≤ gb122)); replace HB := Aside0.mk (below_step (qs HB) hb); have NB121_122 := Aside0.mk ((qu BK121 hg : gb121 ≠ gb122)); have NB122_121 := Aside0.mk ((qw BK121 hg : gb122 ≠ gb121)); replace BK121 := Aside0.mk (qB BK121 hb); clear hb hbox hg))
 replace BK121 := Aside0.mk (blk_drew BK121.out)
 replace BK122 := Aside0.mk (blk_drew BK122.out)
 replace HB := Aside0.mk (below_drew1 HB.out)
 refine start_ (n := 15) (S := fun w' => w'.cell? ⟨gb121, 7, none⟩ = some (.int .u32 (Ar.get 8 a0 7)) ∧ w'.cell? ⟨gb121, 4, none⟩ = some (.int .u32 (Ar.get 8 a0 4)) ∧ w'.cell? ⟨gb121, 5, none⟩ = some (.int .u32 (Ar.get 8 a0 5)) ∧ w'.cell? ⟨gb121, 6, none⟩ = some (.int .u32 (Ar.get 8 a0 6))) (ds := []) #[false, false, false, false, false, false, false, false, false, false, false, false, false, false, false] (by kernel_rfl) rfl rfl ⟨(Ar.cell_run (j := 7) BK121.out (by decide) (by decide)), (Ar.cell_run (j := 4) BK121.out (by decide) (by decide)), (Ar.cell_run (j := 5) BK121.out (by decide) (by decide)), (Ar.cell_run (j := 6) BK121.out (by decide) (by decide))⟩ (fun hHeld => ?_); refine with_tabW comp_Round.tab1 comp_Round.bits1 (fun HT_ HW_ => ?_)
 generalize w7.drew = w8 at BK121 BK122 HB hHeld ⊢
 refine pure_ (i := 0) (N := some 8) (v := ?_) (a' := ?_) #[true, false, false, false, false, false, false, false, false, false, false, false, false, false, false] rfl rfl (any_of HT_.out (by kernel_rfl)) (fun _ _ _ h => h) (Or.inl ⟨by rfl, ?_⟩) ?_ ?_
 rotate_left
 ·intro w'
  go_simp
  with_reducible rfl
 rotate_left
 ·simp only [Act.put, zA_, zB_, zC_, i64_w, i32_w]
  rfl
 refine pure_ (i := 2) (N := some 10) (v := ?_) (a' := ?_) #[true, false, true, false, false, false, false, false, false, false, false, false, false, false, false] rfl rfl (any_of HT_.out (by kernel_rfl)) (fun _ _ _ h => h) (Or.inl ⟨by rfl, ?_⟩) ?_ ?_
 rotate_left
 ·intro w'
  go_simp
  with_reducible rfl
 rotate_left
 ·simp only [Act.put, zA_, zB_, zC_, i64_w, i32_w]
  rfl
 refine pure_ (i := 4) (N := some 12) (v := ?_) (a' := ?_) #[true, false, true, false, true, false, false, false, false, false, false, false, false, false, false] rfl rfl (any_of HT_.out (by kernel_rfl)) (fun _ _ _ h => h) (Or.inl ⟨by rfl, ?_⟩) ?_ ?_
 rotate_left
 ·intro w'
  go_simp
  with_reducible rfl
 rotate_left
 ·simp only [Act.put, zA_, zB_, zC_, i64_w, i32_w]
  rfl
 refine pure_ (i := 6) (N := some 14) (v := ?_) (a' := ?_) #[true, false, true, false, true, false, true, false, false, false, false, false, false, false, false] rfl rfl (any_of HT_.out (by kernel_rfl)) (fun _ _ _ h => h) (Or.inl ⟨by rfl, ?_⟩) ?_ ?_
 rotate_left
 ·intro w'
  go_simp
  with_reducible rfl
 rotate_left
 ·simp only [Act.put, zA_, zB_, zC_, i64_w, i32_w]
  rfl
 refine pure_ (i := 10) (N := some 18) (v := ?_) (a' := ?_) #[true, false, true, false, true, false, true, false, false, false, true, false, false, false, false] rfl rfl (any_of HT_.out (by kernel_rfl)) (fun _ _ _ h => h) (Or.inl ⟨by rfl, ?_⟩) ?_ ?_
 rotate_left
 ·intro w'
  go_simp
  with_reducible rfl
 rotate_left
 ·simp only [Act.put, zA_, zB_, zC_, i64_w, i32_w]
  rfl
 refine pure_ (i := 12) (N := some 20) (v := ?_) (a' := ?_) #[true, false, true, false, true, false, true, false, false, false, true, false, true, false, false] rfl rfl (any_of HT_.out (by kernel_rfl)) (fun _ _ _ h => h) (Or.inl ⟨by rfl, ?_⟩) ?_ ?_
 rotate_left
 ·intro w'
  go_simp
  with_reducible rfl
 rotate_left
 ·simp only [Act.put, zA_, zB_, zC_, i64_w, i32_w]
  rfl
 refine take_ (i := 1) (N := some 9) (v := ?_) (a' := ?_) #[true, true, true, false, true, false, true, false, false, false, true, false, true, false, false] rfl rfl (take_ofW HT_.out HW_.out (by kernel_rfl)) (fun _ _ _ h => h) (Or.inl ⟨by rfl, ?_⟩) hHeld ?_ ?_
 rotate_left
 ·rintro w' ⟨s0, s1, s2, s3⟩
  go_simp
  with_reducible rfl
 rotate_left
 ·simp only [Act.put, zA_, zB_, zC_, i64_w, i32_w]
  rfl
 refine take_ (i := 3) (N := some 11) (v := ?_) (a' := ?_) #[true, true, true, true, true, false, true, false, false, false, true, false, true, false, false] rfl rfl (take_ofW HT_.out HW_.out (by kernel_rfl)) (fun _ _ _ h => h) (Or.inl ⟨by rfl, ?_⟩) hHeld ?_ ?_
 rotate_left
 ·rintro w' ⟨s0, s1, s2, s3⟩
  go_simp
  with_reducible rfl
 rotate_left
 ·simp only [Act.put, zA_, zB_, zC_, i64_w, i32_w]
  rfl
 refine take_ (i := 5) (N := some 13) (v := ?_) (a' := ?_) #[true, true, true, true, true, true, true, false, false, false, true, false, true, false, false] rfl rfl (take_ofW HT_.out HW_.out (by kernel_rfl)) (fun _ _ _ h => h) (Or.inl ⟨by rfl, ?_⟩) hHeld ?_ ?_
 rotate_left
 ·rintro w' ⟨s0, s1, s2, s3⟩
  go_simp
  with_reducible rfl
 rotate_left
 ·simp only [Act.put, zA_, zB_, zC_, i64_w, i32_w]
  rfl
 refine take_ (i := 7) (N := some 15) (v := ?_) (a' := ?_) #[true, true, true, true, true, true, true, true, false, false, true, false, true, false, false] rfl rfl (take_ofW HT_.out HW_.out (by kernel_rfl)) (fun _ _ _ h => h) (Or.inl ⟨by rfl, ?_⟩) hHeld ?_ ?_
 rotate_left
 ·rintro w' ⟨s0, s1, s2, s3⟩
  go_simp
  with_reducible rfl
 rotate_left
 ·simp only [Act.put, zA_, zB_, zC_, i64_w, i32_w]
  rfl
 refine one_ (i := 8) (N := some 16) #[true, true, true, true, true, true, true, true, true, false, true, false, true, false, false] rfl rfl (one_of HT_.out (by kernel_rfl)) (by decide) (fun K hK => ?_)
 refine goes_ Tryd.func82 (by kernel_rfl) rfl #[.int .u32 (Ar.get 8 a0 4), .int .u32 (Ar.get 8 a0 5), .int .u32 (Ar.get 8 a0 6)] (by rfl) rfl rfl ql ?_
 with_reducible refine (comp_low.calls (Ar.get 8 a0 4) (Ar.get 8 a0 5) (Ar.get 8 a0 6) t123 _ A4.out).mono ?_
 rintro e w' ⟨rfl, ⟨nd, rfl⟩⟩
 refine ⟨_, rfl, ?_⟩
 refine hK.out _ _ ⟨(Ar.cell_run (j := 7) BK121.out (by decide) (by decide)), (Ar.cell_run (j := 4) BK121.out (by decide) (by decide)), (Ar.cell_run (j := 5) BK121.out (by decide) (by decide)), (Ar.cell_run (j := 6) BK121.out (by decide) (by decide))⟩ (fun hHeld => ?_)
 clear hK K
 refine norm_ (a' := ?_) ?_ ?_
 rotate_left
 ·show Act.put _ (some 16) _ = _
  simp only [Act.put, zA_, zB_, zC_, i64_w, i32_w]
  rfl
 refine pure_ (i := 9) (N := some 17) (v := ?_) (a' := ?_) #[true, true, true, true, true, true, true, true, true, true, true, false, true, false, false] rfl rfl (any_of HT_.out (by kernel_rfl)) (fun _ _ _ h => h) (Or.inl ⟨by rfl, ?_⟩) ?_ ?_
 rotate_left
 ·intro w'
  go_simp
  with_reducible rfl
 rotate_left
 ·simp only [Act.put, zA_, zB_, zC_, i64_w, i32_w]
  rfl
 refine pure_ (i := 11) (N := some 19) (v := ?_) (a' := ?_) #[true, true, true, true, true, true, true, true, true, true, true, true, true, false, false] rfl rfl (any_of HT_.out (by kernel_rfl)) (fun _ _ _ h => h) (Or.inl ⟨by rfl, ?_⟩) ?_ ?_
 rotate_left
 ·intro w'
  go_simp
  with_reducible rfl
 rotate_left
 ·simp only [Act.put, zA_, zB_, zC_, i64_w, i32_w]
  rfl
 refine pure_ (i := 13) (N := some 21) (v := ?_) (a' := ?_) #[true, true, true, true, true, true, true, true, true, true, true, true, true, true, false] rfl rfl (any_of HT_.out (by kernel_rfl)) (fun _ _ _ h => h) (Or.inl ⟨by rfl, ?_⟩) ?_ ?_
 rotate_left
 ·intro w'
  go_simp
  with_reducible rfl
 rotate_left
 ·simp only [Act.put, zA_, zB_, zC_, i64_w, i32_w]
  rfl
 refine pure_ (i := 14) (N := some 7) (v := ?_) (a' := ?_) #[true, true, true, true, true, true, true, true, true, true, true, true, true, true, true] rfl rfl (any_of HT_.out (by kernel_rfl)) (fun _ _ _ h => h) (Or.inl ⟨by rfl, ?_⟩) ?_ ?_
 rotate_left
 ·intro w'
  go_simp
  with_reducible rfl
 rotate_left
 ·simp only [Act.put, zA_, zB_, zC_, i64_w, i32_w]
  rfl
 refine done_ (done_of HT_.out (by kernel_rfl)) ?_
 try go_wp2
 (try (rw [drewN_self w8]; generalize hq_ : World.drewN w8 _ = w8; have n0_ : Aside0 (w8.heap[gb121]? = some (.cells (Ar.cells .u32 8 a0) 33 (0, 0))) := ⟨by rw [← hq_]; exact (qb BK121)⟩; have n1_ : Aside0 (w8.heap[gb122]? = some (.cells (Ar.cells .u32 8 (List.replicate 8 0)) 33 (0, 0))) := ⟨by rw [← hq_]; exact (qb BK122)⟩; have n2_ : Aside0 (Below w.heap.size w w8) := ⟨by rw [← hq_]; exact (qs HB)⟩; clear BK121 BK122 HB hq_; have BK121 := n0_; have BK122 := n1_; have HB := n2_; clear n0_ n1_ n2_))
 replace BK121 := Aside0.mk (blk_drew BK121.out)
 replace BK122 := Aside0.mk (blk_drew BK122.out)
 replace HB := Aside0.mk (below_drew1 HB.out)
 refine start_ (n := 3) (S := fun w' => True) (ds := []) #[false, false, false] (by kernel_rfl) rfl rfl trivial (fun hHeld => ?_)
 generalize w8.drew = w13 at BK121 BK122 HB hHeld ⊢
 refine pure_ (i := 0) (N := some 22) (v := ?_) (a' := ?_) #[true, false, false] rfl rfl (by kernel_rfl) (fun _ _ _ h => h) (Or.inl ⟨by rfl, ?_⟩) ?_ ?_
 rotate_left
 ·intro w'
  go_simp
  with_reducible rfl
 rotate_left
 ·simp only [Act.put, zA_, zB_, zC_, i64_w, i32_w]
  rfl
 refine pure_ (i := 1) (N := some 23) (v := ?_) (a' := ?_) #[true, true, false] rfl rfl (by kernel_rfl) (fun _ _ _ h => h) (Or.inl ⟨by rfl, ?_⟩) ?_ ?_
 rotate_left
 ·intro w'
  go_simp
  with_reducible rfl
 rotate_left
 ·simp only [Act.put, zA_, zB_, zC_, i64_w, i32_w]
  rfl
 refine one_ (i := 2) (N := some 24) #[true, true, true] rfl rfl (by kernel_rfl) (by decide) (fun K hK => ?_)
 refine Ar.copy_step (by rfl) (dT := 110) (sT := 110) rfl Tryd.underlying110 (by kernel_rfl) (gd := gb122) (gs := gb121) (od := 1) (os := 0) qg qg (qb BK122) (qb BK121) 7 (by rfl) (by decide) (by decide) ?_; intro w14 hbk_ hg
 rw [← Ny124.out] at hbk_
 replace BK121 := Aside0.mk (qG BK121 hg (fun e_ => NB121_122.out (Option.some.inj e_)))
 replace BK122 := Aside0.mk (hbk_)
 replace HB := Aside0.mk (Below.grown (qs HB) hg ((below_size (qs HB))) (fun _ e_ => by cases e_; exact GE122.out))
 clear hbk_ hg
 refine hK.out _ _ trivial (fun hHeld => ?_)
 clear hK K
 refine norm_ (a' := ?_) ?_ ?_
 rotate_left
 ·show Act.put _ (some 24) _ = _
  simp only [Act.put, zA_, zB_, zC_, i64_w, i32_w]
  rfl
 refine done_ (by kernel_rfl) ?_
 try go_wp2_with (first | ((with_reducible refine gate_dst (N := 26) rfl ?_); (try (refine gate_guard (by rfl) ?_; dsimp only)); refine Ar.idx_event rfl (D := 26) rfl (T := 33) (n := 8) rfl Tryd.underlying33 (by kernel_rfl) (g := gb121) rfl (j := 0) qg (by decide) (by decide) ?_) | ((with_reducible refine gate_dst (N := 27) rfl ?_); (try (refine gate_guard (by rfl) ?_; dsimp only)); refine Ar.get_event rfl (D := 27) rfl (E := 31) rfl Tryd.underlying31 (g := gb121) (j := 0) rfl (qb BK121) (by decide) (by decide) ?_) | ((with_reducible refine gate_dst (N := 28) rfl ?_); (try (refine gate_guard (by rfl) ?_; dsimp only)); refine Ar.idx_event rfl (D := 28) rfl (T := 33) (n := 8) rfl Tryd.underlying33 (by kernel_rfl) (g := gb121) rfl (j := 1) qg (by decide) (by decide) ?_) | ((with_reducible refine gate_dst (N := 29) rfl ?_); (try (refine gate_guard (by rfl) ?_; dsimp only)); refine Ar.get_event rfl (D := 29) rfl (E := 31) rfl Tryd.underlying31 (g := gb121) (j := 1) rfl (qb BK121) (by decide) (by decide) ?_) | ((with_reducible refine gate_dst (N := 30) rfl ?_); (try (refine gate_guard (by rfl) ?_; dsimp only)); refine Ar.idx_event rfl (D := 30) rfl (T := 33) (n := 8) rfl Tryd.underlying33 (by kernel_rfl) (g := gb121) rfl (j := 2) qg (by decide) (by decide) ?_) | ((with_reducible refine gate_dst (N := 31) rfl ?_); (try (refine gate_guard (by rfl) ?_; dsimp only)); refine Ar.get_event rfl (D := 31) rfl (E := 31) rfl Tryd.underlying31 (g := gb121) (j := 2) rfl (qb BK121) (by decide) (by decide) ?_) | ((with_reducible refine gate_callee (f := 83) rfl ?_); refine goesL_ (some 32) rfl rfl Tryd.func83 (by kernel_rfl) rfl #[.int .u32 (Ar.get 8 a0 0), .int .u32 (Ar.get 8 a0 1), .int .u32 (Ar.get 8 a0 2)] rfl ql ?_; (with_reducible refine (comp_high.calls (Ar.get 8 a0 0) (Ar.get 8 a0 1) (Ar.get 8 a0 2) t125 _ A5.out).mono ?_); rintro e w' ⟨rfl, ⟨nd, rfl⟩⟩; refine ⟨_, rfl, ?_⟩) | ((with_reducible refine gate_dst (N := 34) rfl ?_); (try (refine gate_guard (by rfl) ?_; dsimp only)); refine Ar.idx_event rfl (D := 34) rfl (T := 33) (n := 8) rfl Tryd.underlying33 (by kernel_rfl) (g := gb122) rfl (j := 0) qg (by decide) (by decide) ?_) | ((with_reducible refine gate_store (t := 31) (p := 34) rfl ?_); refine Ar.put_event rfl rfl rfl (by kernel_rfl) (g := gb122) (j := 0) rfl (z := (((((((((Ar.get 8 a0 7) + t123) % 4294967296) + a2) % 4294967296) + a1) % 4294967296) + t125) % 4294967296)) qg (qb BK122) (by decide) (by decide) ?_; intro w15 hbk_ hg; rw [← Ny126.out] at hbk_; replace BK121 := Aside0.mk (qG BK121 hg (fun e_ => NB121_122.out (Option.some.inj e_))); replace BK122 := Aside0.mk (hbk_); replace HB := Aside0.mk (Below.grown (qs HB) hg ((below_size (qs HB))) (fun _ e_ => by cases e_; exact GE122.out)); clear hbk_ hg) | ((with_reducible refine gate_dst (N := 35) rfl ?_); (try (refine gate_guard (by rfl) ?_; dsimp only)); refine Ar.idx_event rfl (D := 35) rfl (T := 33) (n := 8) rfl Tryd.underlying33 (by kernel_rfl) (g := gb122) rfl (j := 4) qg (by decide) (by decide) ?_) | ((with_reducible refine gate_dst (N := 36) rfl ?_); (try (refine gate_guard (by rfl) ?_; dsimp only)); refine Ar.get_event rfl (D := 36) rfl (E := 31) rfl Tryd.underlying31 (g := gb122) (j := 4) rfl (qb BK122) (by decide) (by decide) ?_) | ((with_reducible refine gate_dst (N := 39) rfl ?_); (try (refine gate_guard (by rfl) ?_; dsimp only)); refine Ar.idx_event rfl (D := 39) rfl (T := 33) (n := 8) rfl Tryd.underlying33 (by kernel_rfl) (g := gb122) rfl (j := 4) qg (by decide) (by decide) ?_) | ((with_reducible refine gate_store (t := 31) (p := 39) rfl ?_); refine Ar.put_event rfl rfl rfl (by kernel_rfl) (g := gb122) (j := 4) rfl (z := (((Ar.get 8 y126 4) + (((((((Ar.get 8 a0 7) + t123) % 4294967296) + a2) % 4294967296) + a1) % 4294967296)) % 4294967296)) qg (qb BK122) (by decide) (by decide) ?_; intro w16 hbk_ hg; rw [← Ny127.out] at hbk_; replace BK121 := Aside0.mk (qG BK121 hg (fun e_ => NB121_122.out (Option.some.inj e_))); replace BK122 := Aside0.mk (hbk_); replace HB := Aside0.mk (Below.grown (qs HB) hg ((below_size (qs HB))) (fun _ e_ => by cases e_; exact GE122.out)); clear hbk_ hg) | ((with_reducible refine gate_dst (N := 40) rfl ?_); (try (refine gate_guard (by rfl) ?_; dsimp only)); refine Ar.load_event rfl (D := 40) rfl (T := 33) rfl Tryd.underlying33 (by kernel_rfl) (g := gb122) rfl (qb BK122) ?_) | ((with_reducible refine gate_store (t := 33) (p := 6) rfl ?_); refine Ar.store_all_event rfl rfl rfl Tryd.underlying33 (by kernel_rfl) (g := gb122) rfl (z := y127) qg (qb BK122) ?_; intro w17 hbk_ hg; replace BK121 := Aside0.mk (qG BK121 hg (fun e_ => NB121_122.out (Option.some.inj e_))); replace BK122 := Aside0.mk (hbk_); replace HB := Aside0.mk (Below.grown (qs HB) hg ((below_size (qs HB))) (fun _ e_ => by cases e_; exact GE122.out)); clear hbk_ hg))
 refine bodyPost_ret (results_cell_row rfl _ _ gb122 33 (Ar.cells .u32 8 y127) (0, 0) _ rfl (qb BK122) Tryd.underlying33 rfl qZ) rfl ?_
 exact ⟨by first | rfl | (simp [errW_none, errW_some] <;> rfl) | (simp [*, errW_none, errW_some] <;> rfl), by repeat (first | (with_reducible first | exact HB.out | apply below_alloc | apply pw_below_drewN | apply below_drew1 | refine below_set ?_ GE121.out | refine below_set ?_ GE122.out) | exact HB.out)⟩
end Go.Proofs.YtkcdcbiobkcpmaaDoor.PA
end
section
namespace Go.Proofs.YtkcdcbiobkcpmaaDoor.PA
open Go.RowKit Go.Proofs.YtkcdcbiobkcpmaaDoorW.PrintWords Go.Proofs.YtkcdcbiobkcpmaaDoorW.PrintLast Go.Proofs.YtkcdcbiobkcpmaaDoorW.PrintMore
attribute [local go_sem] max2_int min2_int max_two min_two max_three min_three max_four min_four
set_option linter.unusedVariables false
set_option linter.unusedSimpArgs false
mutual
def comp_Take.l0 : Nat → List Int → Int → List Int → List Int → List Int → Option (List Int)
 | 0, _, _, _, _, _ => none
 | k + 1, x13, x14, x129000, x133000, x134000 => if x14 < 64 then (if 0 ≤ x14 then ((comp_Round.f x133000 (Ar.get 64 x13 x14) (Ar.get 64 x134000 x14)).bind fun t135 => (comp_Take.l0 k x13 (wrap64 (x14 + 1)) x129000 t135 x134000)) else (none)) else (comp_Take.l1 k 0 x129000 x133000)
def comp_Take.l1 : Nat → Int → List Int → List Int → Option (List Int)
 | 0, _, _, _ => none
 | k + 1, x25, x129000, x133000 => if x25 < 8 then (if 0 ≤ x25 then (comp_Take.l1 k (wrap64 (x25 + 1)) x129000 (Ar.set 8 x133000 x25 (((Ar.get 8 x133000 x25) + (Ar.get 8 x129000 x25)) % 4294967296))) else (none)) else (some x133000)
end
def comp_Take.f (k : Nat) (a0 : List Int) (a1 : List Int) : Option (List Int) := (comp_constants.f).bind fun t131 => ((plan_Of.f k a1).bind fun t134 => (comp_Take.l0 k t134 0 a0 a0 t131))
theorem comp_Take.mono_l : ∀ k, (∀ y0 y1 y2 y3 y4, LeO (comp_Take.l0 k y0 y1 y2 y3 y4) (comp_Take.l0 (k + 1) y0 y1 y2 y3 y4)) ∧ (∀ y0 y1 y2, LeO (comp_Take.l1 k y0 y1 y2) (comp_Take.l1 (k + 1) y0 y1 y2))
 | 0 => ⟨fun _ _ _ _ _ r h => by simp [comp_Take.l0] at h, fun _ _ _ r h => by simp [comp_Take.l1] at h⟩
 | k + 1 => by
  obtain ⟨ih0, ih1⟩ := comp_Take.mono_l k
  refine ⟨?_, ?_⟩
  ·intro y0 y1 y2 y3 y4
   unfold comp_Take.l0
   repeat' first
   | (with_reducible exact ih0 _ _ _ _ _)
   | (with_reducible exact ih1 _ _ _)
   | (with_reducible exact plan_Of.mono _ _)
   | (with_reducible exact LeO.refl _)
   | (with_reducible exact LeO.none _)
   | (with_reducible refine LeO.ite ?_ ?_)
   | (with_reducible refine LeO.bind ?_ (fun _ => ?_))
   | exact ih0 _ _ _ _ _
   | exact ih1 _ _ _
   | exact plan_Of.mono _ _
   | exact LeO.none _
   | refine LeO.ite ?_ ?_
   | refine LeO.bind ?_ (fun _ => ?_)
  ·intro y0 y1 y2
   unfold comp_Take.l1
   repeat' first
   | (with_reducible exact ih0 _ _ _ _ _)
   | (with_reducible exact ih1 _ _ _)
   | (with_reducible exact plan_Of.mono _ _)
   | (with_reducible exact LeO.refl _)
   | (with_reducible exact LeO.none _)
   | (with_reducible refine LeO.ite ?_ ?_)
   | (with_reducible refine LeO.bind ?_ (fun _ => ?_))
   | exact ih0 _ _ _ _ _
   | exact ih1 _ _ _
   | exact plan_Of.mono _ _
   | exact LeO.none _
   | refine LeO.ite ?_ ?_
   | refine LeO.bind ?_ (fun _ => ?_)
theorem comp_Take.mono : ∀ a0 a1 k, LeO (comp_Take.f k a0 a1) (comp_Take.f (k + 1) a0 a1) := by
 intro a0 a1 k
 obtain ⟨ih0, ih1⟩ := comp_Take.mono_l k
 unfold comp_Take.f
 repeat' first
   | (with_reducible exact ih0 _ _ _ _ _)
   | (with_reducible exact ih1 _ _ _)
   | (with_reducible exact plan_Of.mono _ _)
   | (with_reducible exact LeO.refl _)
   | (with_reducible exact LeO.none _)
   | (with_reducible refine LeO.ite ?_ ?_)
   | (with_reducible refine LeO.bind ?_ (fun _ => ?_))
   | exact ih0 _ _ _ _ _
   | exact ih1 _ _ _
   | exact plan_Of.mono _ _
   | exact LeO.none _
   | refine LeO.ite ?_ ?_
   | refine LeO.bind ?_ (fun _ => ?_)
def comp_Take.T10 : Bool × List (List Nat × List Nat) := (true, [([], []), ([0], [0]), ([1], [1]), ([], []), ([3], [3]), ([4], [4]), ([2, 5], [2, 5]), ([0, 0, 1, 2, 3, 4, 5, 6], [0]), ([7, 6, 0, 1, 2, 3, 4, 5, 6], [6, 7])])
def comp_Take.B10 : List Nat := [0, 1, 3, 0, 8, 24, 63, 127, 255]
theorem comp_Take.tab10 : rtab .any (opsOf Tryd.f49 10) = comp_Take.T10 := by kernel_rfl
theorem comp_Take.bits10 : waitsOk comp_Take.T10.2 comp_Take.B10 = true := by kernel_rfl
set_option maxHeartbeats 8000000 in
set_option maxRecDepth 100000 in
theorem comp_Take.calls (k : Nat) (a0 : List Int) (a1 : List Int) (r : List Int) (w : World) (h : comp_Take.f k a0 a1 = some r) :
  Calls Tryd.prog 49 #[.agg (Ar.cells .u32 8 a0), .agg (Ar.cells .u8 64 a1)] w fun e w' => e = .returned (.agg (Ar.cells .u32 8 r)) ∧ Below w.heap.size w w' := by
 have HB := Aside0.mk (Below.refl w.heap.size w)
 have H : ((comp_constants.f).bind fun t131 => ((plan_Of.f k a1).bind fun t134 => (comp_Take.l0 k t134 0 a0 a0 t131))) = some r := h
 clear h
 replace H := Option.bind_eq_some_iff.mp H
 obtain ⟨t131, A30, H⟩ := H
 replace H : ((plan_Of.f k a1).bind fun t134 => (comp_Take.l0 k t134 0 a0 a0 t131)) = some r := H
 have A3 := Aside0.mk A30
 clear A30
 replace H := Option.bind_eq_some_iff.mp H
 obtain ⟨t134, A40, H⟩ := H
 replace H : (comp_Take.l0 k t134 0 a0 a0 t131) = some r := H
 have A4 := Aside0.mk A40
 clear A40
 have H' := Aside0.mk H
 clear H
 go_enter Tryd.func49, Tryd.ntmps49
 try go_wp2_with (first | ((with_reducible refine gate_dst (N := 2) rfl ?_); (try (refine gate_guard (by rfl) ?_; dsimp only)); refine qE (N := 2) (cs := (Ar.cells .u32 8 a0)) (t := 33) ?_; intro gb128 hg w5 hbox hb; have BK128 := Aside0.mk (hbox); have GW128 := Aside0.mk ((qe HB hg : w.heap.size ≤ gb128)); have GE128 := Aside0.mk ((qe HB hg : w.heap.size ≤ gb128)); replace HB := Aside0.mk (below_step (qs HB) hb); clear hb hbox hg) | ((with_reducible refine gate_dst (N := 3) rfl ?_); (try (refine gate_guard (by rfl) ?_; dsimp only)); refine qE (N := 3) (cs := (Ar.cells .u8 64 a1)) (t := 78) ?_; intro gb129 hg w6 hbox hb; have BK129 := Aside0.mk (hbox); have GW129 := Aside0.mk ((qe HB hg : w.heap.size ≤ gb129)); have GE129 := Aside0.mk ((qe HB hg : w.heap.size ≤ gb129)); replace HB := Aside0.mk (below_step (qs HB) hb); have NB128_129 := Aside0.mk ((qu BK128 hg : gb128 ≠ gb129)); have NB129_128 := Aside0.mk ((qw BK128 hg : gb129 ≠ gb128)); replace BK128 := Aside0.mk (qB BK128 hb); clear hb hbox hg) | ((with_reducible refine gate_dst (N := 4) rfl ?_); (try (refine gate_guard (by rfl) ?_; dsimp only)); refine qE (N := 4) (cs := (Ar.cells .u32 8 (List.replicate 8 0))) (t := 33) ?_; intro gb130 hg w7 hbox hb; have BK130 := Aside0.mk (hbox); have GW130 := Aside0.mk ((qe HB hg : w.heap.size ≤ gb130)); have GE130 := Aside0.mk ((qe HB hg : w.heap.size ≤ gb130)); replace HB := Aside0.mk (below_step (qs HB) hb); have NB128_130 := Aside0.mk ((qu BK128 hg : gb128 ≠ gb130)); have NB130_128 := Aside0.mk ((qw BK128 hg : gb130 ≠ gb128)); replace BK128 := Aside0.mk (qB BK128 hb); have NB129_130 := Aside0.mk ((qu BK129 hg : gb129 ≠ gb130)); have NB130_129 := Aside0.mk ((qw BK129 hg : gb130 ≠ gb129)); replace BK129 := Aside0.mk (qB BK129 hb); clear hb hbox hg))
 replace BK128 := Aside0.mk (blk_drew BK128.out)
 replace BK129 := Aside0.mk (blk_drew BK129.out)
 replace BK130 := Aside0.mk (blk_drew BK130.out)
 replace HB := Aside0.mk (below_drew1 HB.out)
 refine start_ (n := 6) (S := fun w' => w'.heap[gb128]? = some (.cells (Ar.cells .u32 8 a0) 33 (0, 0))) (ds := []) #[false, false, false, false, false, false] (by kernel_rfl) rfl rfl (BK128.out) (fun hHeld => ?_)
 generalize w7.drew = w8 at BK128 BK129 BK130 HB hHeld ⊢
 refine take_ (i := 0) (N := some 10) (v := ?_) (a' := ?_) #[true, false, false, false, false, false] rfl rfl (by kernel_rfl) (fun _ _ _ h => h) (Or.inl ⟨by rfl, ?_⟩) hHeld ?_ ?_
 rotate_left
 ·intro w' s0
  first | (refine (Ar.load_run rfl Tryd.underlying33 (by kernel_rfl) rfl (by assumption)).trans ?_; with_reducible rfl) | (go_simp; with_reducible rfl)
 rotate_left
 ·simp only [Act.put, zA_, zB_, zC_, i64_w, i32_w]
  rfl
 refine join_ (σ := Nat × Nat) 2 #[true, true, true, true, false, false] (fun s_ => [(11, .agg (Ar.cells .u32 64 t131)), (5, .pointer (some ⟨s_.1, 0, none⟩)), (6, .pointer (some ⟨s_.2, 0, none⟩))]) (fun s_ w' => (w'.heap[gb128]? = some (.cells (Ar.cells .u32 8 a0) 33 (0, 0))) ∧ (w'.heap[gb128]? = some (.cells (Ar.cells .u32 8 a0) 33 (0, 0))) ∧ (w'.heap[gb129]? = some (.cells (Ar.cells .u8 64 a1) 78 (0, 0))) ∧ (w'.heap[gb130]? = some (.cells (Ar.cells .u32 8 (List.replicate 8 0)) 33 (0, 0))) ∧ (w'.heap[s_.1]? = some (.cells (Ar.cells .u32 8 (List.replicate 8 0)) 33 (0, 0))) ∧ (w'.heap[s_.2]? = some (.cells (Ar.cells .u32 64 (List.replicate 64 0)) 94 (0, 0))) ∧ (w.heap.size ≤ s_.1) ∧ (w.heap.size ≤ s_.1) ∧ (gb128 ≠ s_.1) ∧ (s_.1 ≠ gb128) ∧ (gb129 ≠ s_.1) ∧ (s_.1 ≠ gb129) ∧ (gb130 ≠ s_.1) ∧ (s_.1 ≠ gb130) ∧ (s_.2 ≠ s_.1) ∧ (s_.1 ≠ s_.2) ∧ (w.heap.size ≤ s_.2) ∧ (w.heap.size ≤ s_.2) ∧ (gb128 ≠ s_.2) ∧ (s_.2 ≠ gb128) ∧ (gb129 ≠ s_.2) ∧ (s_.2 ≠ gb129) ∧ (gb130 ≠ s_.2) ∧ (s_.2 ≠ gb130) ∧ (Below w.heap.size w w')) ?_ ?_
 rotate_left
 ·intro hJ1_2_3
  refine join_ (σ := Nat) 3 #[true, true, true, false, false, false] (fun s_ => [(11, .agg (Ar.cells .u32 64 t131)), (5, .pointer (some ⟨s_, 0, none⟩))]) (fun s_ w' => (w'.heap[gb128]? = some (.cells (Ar.cells .u32 8 a0) 33 (0, 0))) ∧ (w'.heap[gb128]? = some (.cells (Ar.cells .u32 8 a0) 33 (0, 0))) ∧ (w'.heap[gb129]? = some (.cells (Ar.cells .u8 64 a1) 78 (0, 0))) ∧ (w'.heap[gb130]? = some (.cells (Ar.cells .u32 8 (List.replicate 8 0)) 33 (0, 0))) ∧ (w'.heap[s_]? = some (.cells (Ar.cells .u32 8 (List.replicate 8 0)) 33 (0, 0))) ∧ (w.heap.size ≤ s_) ∧ (w.heap.size ≤ s_) ∧ (gb128 ≠ s_) ∧ (s_ ≠ gb128) ∧ (gb129 ≠ s_) ∧ (s_ ≠ gb129) ∧ (gb130 ≠ s_) ∧ (s_ ≠ gb130) ∧ (Below w.heap.size w w')) ?_ ?_
  rotate_left
  ·intro hJ1_2
   refine join_ (σ := Nat) 3 #[true, true, false, true, false, false] (fun s_ => [(11, .agg (Ar.cells .u32 64 t131)), (6, .pointer (some ⟨s_, 0, none⟩))]) (fun s_ w' => (w'.heap[gb128]? = some (.cells (Ar.cells .u32 8 a0) 33 (0, 0))) ∧ (w'.heap[gb128]? = some (.cells (Ar.cells .u32 8 a0) 33 (0, 0))) ∧ (w'.heap[gb129]? = some (.cells (Ar.cells .u8 64 a1) 78 (0, 0))) ∧ (w'.heap[gb130]? = some (.cells (Ar.cells .u32 8 (List.replicate 8 0)) 33 (0, 0))) ∧ (w'.heap[s_]? = some (.cells (Ar.cells .u32 64 (List.replicate 64 0)) 94 (0, 0))) ∧ (w.heap.size ≤ s_) ∧ (w.heap.size ≤ s_) ∧ (gb128 ≠ s_) ∧ (s_ ≠ gb128) ∧ (gb129 ≠ s_) ∧ (s_ ≠ gb129) ∧ (gb130 ≠ s_) ∧ (s_ ≠ gb130) ∧ (Below w.heap.size w w')) ?_ ?_
   rotate_left
   ·intro hJ1_3
    refine join_ (σ := Nat × Nat) 3 #[true, false, true, true, false, false] (fun s_ => [(5, .pointer (some ⟨s_.1, 0, none⟩)), (6, .pointer (some ⟨s_.2, 0, none⟩))]) (fun s_ w' => (w'.heap[gb128]? = some (.cells (Ar.cells .u32 8 a0) 33 (0, 0))) ∧ (w'.heap[gb128]? = some (.cells (Ar.cells .u32 8 a0) 33 (0, 0))) ∧ (w'.heap[gb129]? = some (.cells (Ar.cells .u8 64 a1) 78 (0, 0))) ∧ (w'.heap[gb130]? = some (.cells (Ar.cells .u32 8 (List.replicate 8 0)) 33 (0, 0))) ∧ (w'.heap[s_.1]? = some (.cells (Ar.cells .u32 8 (List.replicate 8 0)) 33 (0, 0))) ∧ (w'.heap[s_.2]? = some (.cells (Ar.cells .u32 64 (List.replicate 64 0)) 94 (0, 0))) ∧ (w.heap.size ≤ s_.1) ∧ (w.heap.size ≤ s_.1) ∧ (gb128 ≠ s_.1) ∧ (s_.1 ≠ gb128) ∧ (gb129 ≠ s_.1) ∧ (s_.1 ≠ gb129) ∧ (gb130 ≠ s_.1) ∧ (s_.1 ≠ gb130) ∧ (s_.2 ≠ s_.1) ∧ (s_.1 ≠ s_.2) ∧ (w.heap.size ≤ s_.2) ∧ (w.heap.size ≤ s_.2) ∧ (gb128 ≠ s_.2) ∧ (s_.2 ≠ gb128) ∧ (gb129 ≠ s_.2) ∧ (s_.2 ≠ gb129) ∧ (gb130 ≠ s_.2) ∧ (s_.2 ≠ gb130) ∧ (Below w.heap.size w w')) ?_ ?_
    rotate_left
    ·intro hJ2_3
     refine join_ (σ := Unit) 4 #[true, true, false, false, false, false] (fun s_ => [(11, .agg (Ar.cells .u32 64 t131))]) (fun s_ w' => (w'.heap[gb128]? = some (.cells (Ar.cells .u32 8 a0) 33 (0, 0))) ∧ (w'.heap[gb128]? = some (.cells (Ar.cells .u32 8 a0) 33 (0, 0))) ∧ (w'.heap[gb129]? = some (.cells (Ar.cells .u8 64 a1) 78 (0, 0))) ∧ (w'.heap[gb130]? = some (.cells (Ar.cells .u32 8 (List.replicate 8 0)) 33 (0, 0))) ∧ (Below w.heap.size w w')) ?_ ?_
     rotate_left
     ·intro hJ1
      refine join_ (σ := Nat) 4 #[true, false, true, false, false, false] (fun s_ => [(5, .pointer (some ⟨s_, 0, none⟩))]) (fun s_ w' => (w'.heap[gb128]? = some (.cells (Ar.cells .u32 8 a0) 33 (0, 0))) ∧ (w'.heap[gb128]? = some (.cells (Ar.cells .u32 8 a0) 33 (0, 0))) ∧ (w'.heap[gb129]? = some (.cells (Ar.cells .u8 64 a1) 78 (0, 0))) ∧ (w'.heap[gb130]? = some (.cells (Ar.cells .u32 8 (List.replicate 8 0)) 33 (0, 0))) ∧ (w'.heap[s_]? = some (.cells (Ar.cells .u32 8 (List.replicate 8 0)) 33 (0, 0))) ∧ (w.heap.size ≤ s_) ∧ (w.heap.size ≤ s_) ∧ (gb128 ≠ s_) ∧ (s_ ≠ gb128) ∧ (gb129 ≠ s_) ∧ (s_ ≠ gb129) ∧ (gb130 ≠ s_) ∧ (s_ ≠ gb130) ∧ (Below w.heap.size w w')) ?_ ?_
      rotate_left
      ·intro hJ2
       refine join_ (σ := Nat) 4 #[true, false, false, true, false, false] (fun s_ => [(6, .pointer (some ⟨s_, 0, none⟩))]) (fun s_ w' => (w'.heap[gb128]? = some (.cells (Ar.cells .u32 8 a0) 33 (0, 0))) ∧ (w'.heap[gb128]? = some (.cells (Ar.cells .u32 8 a0) 33 (0, 0))) ∧ (w'.heap[gb129]? = some (.cells (Ar.cells .u8 64 a1) 78 (0, 0))) ∧ (w'.heap[gb130]? = some (.cells (Ar.cells .u32 8 (List.replicate 8 0)) 33 (0, 0))) ∧ (w'.heap[s_]? = some (.cells (Ar.cells .u32 64 (List.replicate 64 0)) 94 (0, 0))) ∧ (w.heap.size ≤ s_) ∧ (w.heap.size ≤ s_) ∧ (gb128 ≠ s_) ∧ (s_ ≠ gb128) ∧ (gb129 ≠ s_) ∧ (s_ ≠ gb129) ∧ (gb130 ≠ s_) ∧ (s_ ≠ gb130) ∧ (Below w.heap.size w w')) ?_ ?_
       rotate_left
       ·intro hJ3
        refine three_ (i := 1) (j := 2) (k := 3) (Ni := some 11) (Nj := some 5) (Nk := some 6) #[true, true, false, false, false, false] #[true, false, true, false, false, false] #[true, false, false, true, false, false] rfl rfl rfl rfl rfl rfl (by kernel_rfl) (by decide) (by decide) (by decide) (fun K hK => ?_) (fun K hK => ?_) (fun K hK => ?_)
        ·skip
         refine goes_ Tryd.func64 (by kernel_rfl) rfl #[] (by rfl) rfl rfl ql ?_
         with_reducible refine (comp_constants.calls  t131 _ A3.out).mono ?_
         rintro e w9 ⟨rfl, hb⟩
         refine ⟨_, rfl, ?_⟩
         replace BK128 := Aside0.mk (qB BK128 hb)
         replace BK129 := Aside0.mk (qB BK129 hb)
         replace BK130 := Aside0.mk (qB BK130 hb)
         replace HB := Aside0.mk (below_step (qs HB) hb)
         (try clear hb)
         (try clear hb2)
         (try clear hk)
         (try clear hi)
         refine hK.out _ _ (BK128.out) (fun hHeld => ?_)
         clear hK K
         refine norm_ (a' := ?_) ?_ ?_
         rotate_left
         ·show Act.put _ (some 11) _ = _
          simp only [Act.put, zA_, zB_, zC_, i64_w, i32_w]
          rfl
         exact norm_ qp (hJ1 () _ ⟨hHeld, (qb BK128), (qb BK129), (qb BK130), (qs HB)⟩)
        ·skip
         refine box_step ?hg (N := 5) ?hd (cs := (Ar.cells .u32 8 (List.replicate 8 0))) (t := 33) ?hr ?_; (case hd => rfl); (case hg => rfl); (case hr => first | exact Ar.box_run rfl rfl | exact Ar.alloc_run rfl (by kernel_rfl) | (go_simp; done) | (go_simp; rfl))
         intro gb132 hg w9 hbox hb
         have BK132 := Aside0.mk (hbox)
         have GW132 := Aside0.mk ((qe HB hg : w.heap.size ≤ gb132))
         have GE132 := Aside0.mk ((qe HB hg : w.heap.size ≤ gb132))
         replace HB := Aside0.mk (below_step (qs HB) hb)
         have NB128_132 := Aside0.mk ((qu BK128 hg : gb128 ≠ gb132))
         have NB132_128 := Aside0.mk ((qw BK128 hg : gb132 ≠ gb128))
         replace BK128 := Aside0.mk (qB BK128 hb)
         have NB129_132 := Aside0.mk ((qu BK129 hg : gb129 ≠ gb132))
         have NB132_129 := Aside0.mk ((qw BK129 hg : gb132 ≠ gb129))
         replace BK129 := Aside0.mk (qB BK129 hb)
         have NB130_132 := Aside0.mk ((qu BK130 hg : gb130 ≠ gb132))
         have NB132_130 := Aside0.mk ((qw BK130 hg : gb132 ≠ gb130))
         replace BK130 := Aside0.mk (qB BK130 hb)
         clear hb hbox hg
         refine hK.out _ _ (BK128.out) (fun hHeld => ?_)
         clear hK K
         refine norm_ (a' := ?_) ?_ ?_
         rotate_left
         ·show Act.put _ (some 5) _ = _
          simp only [Act.put, zA_, zB_, zC_, i64_w, i32_w]
          rfl
         exact norm_ qp (hJ2 (gb132) _ ⟨hHeld, (qb BK128), (qb BK129), (qb BK130), (qb BK132), GW132.out, GE132.out, NB128_132.out, NB132_128.out, NB129_132.out, NB132_129.out, NB130_132.out, NB132_130.out, (qs HB)⟩)
        ·skip
         refine box_step ?hg (N := 6) ?hd (cs := (Ar.cells .u32 64 (List.replicate 64 0))) (t := 94) ?hr ?_; (case hd => rfl); (case hg => rfl); (case hr => first | exact Ar.box_run rfl rfl | exact Ar.alloc_run rfl (by kernel_rfl) | (go_simp; done) | (go_simp; rfl))
         intro gb133 hg w9 hbox hb
         have BK133 := Aside0.mk (hbox)
         have GW133 := Aside0.mk ((qe HB hg : w.heap.size ≤ gb133))
         have GE133 := Aside0.mk ((qe HB hg : w.heap.size ≤ gb133))
         replace HB := Aside0.mk (below_step (qs HB) hb)
         have NB128_133 := Aside0.mk ((qu BK128 hg : gb128 ≠ gb133))
         have NB133_128 := Aside0.mk ((qw BK128 hg : gb133 ≠ gb128))
         replace BK128 := Aside0.mk (qB BK128 hb)
         have NB129_133 := Aside0.mk ((qu BK129 hg : gb129 ≠ gb133))
         have NB133_129 := Aside0.mk ((qw BK129 hg : gb133 ≠ gb129))
         replace BK129 := Aside0.mk (qB BK129 hb)
         have NB130_133 := Aside0.mk ((qu BK130 hg : gb130 ≠ gb133))
         have NB133_130 := Aside0.mk ((qw BK130 hg : gb133 ≠ gb130))
         replace BK130 := Aside0.mk (qB BK130 hb)
         clear hb hbox hg
         refine hK.out _ _ (BK128.out) (fun hHeld => ?_)
         clear hK K
         refine norm_ (a' := ?_) ?_ ?_
         rotate_left
         ·show Act.put _ (some 6) _ = _
          simp only [Act.put, zA_, zB_, zC_, i64_w, i32_w]
          rfl
         exact norm_ qp (hJ3 (gb133) _ ⟨hHeld, (qb BK128), (qb BK129), (qb BK130), (qb BK133), GW133.out, GE133.out, NB128_133.out, NB133_128.out, NB129_133.out, NB133_129.out, NB130_133.out, NB133_130.out, (qs HB)⟩)
       ·skip
        rintro gb133 w10 ⟨hS_, h0_, h1_, h2_, h3_, h4_, h5_, h6_, h7_, h8_, h9_, h10_, h11_, h12_⟩
        have n0_ : Aside0 (w10.heap[gb128]? = some (.cells (Ar.cells .u32 8 a0) 33 (0, 0))) := ⟨h0_⟩
        have n1_ : Aside0 (w10.heap[gb129]? = some (.cells (Ar.cells .u8 64 a1) 78 (0, 0))) := ⟨h1_⟩
        have n2_ : Aside0 (w10.heap[gb130]? = some (.cells (Ar.cells .u32 8 (List.replicate 8 0)) 33 (0, 0))) := ⟨h2_⟩
        have n3_ : Aside0 (w10.heap[gb133]? = some (.cells (Ar.cells .u32 64 (List.replicate 64 0)) 94 (0, 0))) := ⟨h3_⟩
        have n4_ : Aside0 (w.heap.size ≤ gb133) := ⟨h4_⟩
        have n5_ : Aside0 (w.heap.size ≤ gb133) := ⟨h5_⟩
        have n6_ : Aside0 (gb128 ≠ gb133) := ⟨h6_⟩
        have n7_ : Aside0 (gb133 ≠ gb128) := ⟨h7_⟩
        have n8_ : Aside0 (gb129 ≠ gb133) := ⟨h8_⟩
        have n9_ : Aside0 (gb133 ≠ gb129) := ⟨h9_⟩
        have n10_ : Aside0 (gb130 ≠ gb133) := ⟨h10_⟩
        have n11_ : Aside0 (gb133 ≠ gb130) := ⟨h11_⟩
        have n12_ : Aside0 (Below w.heap.size w w10) := ⟨h12_⟩
        clear BK128 BK129 BK130 HB h0_ h1_ h2_ h3_ h4_ h5_ h6_ h7_ h8_ h9_ h10_ h11_ h12_
        have BK128 := n0_
        have BK129 := n1_
        have BK130 := n2_
        have BK133 := n3_
        have GW133 := n4_
        have GE133 := n5_
        have NB128_133 := n6_
        have NB133_128 := n7_
        have NB129_133 := n8_
        have NB133_129 := n9_
        have NB130_133 := n10_
        have NB133_130 := n11_
        have HB := n12_
        clear n0_ n1_ n2_ n3_ n4_ n5_ n6_ n7_ n8_ n9_ n10_ n11_ n12_
        have hHeld : w10.heap[gb128]? = some (.cells (Ar.cells .u32 8 a0) 33 (0, 0)) := hS_
        refine norm_ (a' := ?_) ?_ ?_
        rotate_left
        ·simp only [putAll, Act.put, zA_, zB_, zC_]
         rfl
        refine two_ (i := 1) (j := 2) (Ni := some 11) (Nj := some 5) #[true, true, false, true, false, false] #[true, false, true, true, false, false] rfl rfl rfl rfl (by kernel_rfl) (by decide) (by decide) (fun K hK => ?_) (fun K hK => ?_)
        ·skip
         refine goes_ Tryd.func64 (by kernel_rfl) rfl #[] (by rfl) rfl rfl ql ?_
         with_reducible refine (comp_constants.calls  t131 _ A3.out).mono ?_
         rintro e w11 ⟨rfl, hb⟩
         refine ⟨_, rfl, ?_⟩
         replace BK128 := Aside0.mk (qB BK128 hb)
         replace BK129 := Aside0.mk (qB BK129 hb)
         replace BK130 := Aside0.mk (qB BK130 hb)
         replace BK133 := Aside0.mk (qB BK133 hb)
         replace HB := Aside0.mk (below_step (qs HB) hb)
         (try clear hb)
         (try clear hb2)
         (try clear hk)
         (try clear hi)
         refine hK.out _ _ (BK128.out) (fun hHeld => ?_)
         clear hK K
         refine norm_ (a' := ?_) ?_ ?_
         rotate_left
         ·show Act.put _ (some 11) _ = _
          simp only [Act.put, zA_, zB_, zC_, i64_w, i32_w]
          rfl
         exact norm_ qp (hJ1_3 (gb133) _ ⟨hHeld, (qb BK128), (qb BK129), (qb BK130), (qb BK133), GW133.out, GE133.out, NB128_133.out, NB133_128.out, NB129_133.out, NB133_129.out, NB130_133.out, NB133_130.out, (qs HB)⟩)
        ·skip
         refine box_step ?hg (N := 5) ?hd (cs := (Ar.cells .u32 8 (List.replicate 8 0))) (t := 33) ?hr ?_; (case hd => rfl); (case hg => rfl); (case hr => first | exact Ar.box_run rfl rfl | exact Ar.alloc_run rfl (by kernel_rfl) | (go_simp; done) | (go_simp; rfl))
         intro gb132 hg w11 hbox hb
         have BK132 := Aside0.mk (hbox)
         have GW132 := Aside0.mk ((qe HB hg : w.heap.size ≤ gb132))
         have GE132 := Aside0.mk ((qe HB hg : w.heap.size ≤ gb132))
         replace HB := Aside0.mk (below_step (qs HB) hb)
         have NB128_132 := Aside0.mk ((qu BK128 hg : gb128 ≠ gb132))
         have NB132_128 := Aside0.mk ((qw BK128 hg : gb132 ≠ gb128))
         replace BK128 := Aside0.mk (qB BK128 hb)
         have NB129_132 := Aside0.mk ((qu BK129 hg : gb129 ≠ gb132))
         have NB132_129 := Aside0.mk ((qw BK129 hg : gb132 ≠ gb129))
         replace BK129 := Aside0.mk (qB BK129 hb)
         have NB130_132 := Aside0.mk ((qu BK130 hg : gb130 ≠ gb132))
         have NB132_130 := Aside0.mk ((qw BK130 hg : gb132 ≠ gb130))
         replace BK130 := Aside0.mk (qB BK130 hb)
         have NB133_132 := Aside0.mk ((qu BK133 hg : gb133 ≠ gb132))
         have NB132_133 := Aside0.mk ((qw BK133 hg : gb132 ≠ gb133))
         replace BK133 := Aside0.mk (qB BK133 hb)
         clear hb hbox hg
         refine hK.out _ _ (BK128.out) (fun hHeld => ?_)
         clear hK K
         refine norm_ (a' := ?_) ?_ ?_
         rotate_left
         ·show Act.put _ (some 5) _ = _
          simp only [Act.put, zA_, zB_, zC_, i64_w, i32_w]
          rfl
         exact norm_ qp (hJ2_3 (gb132, gb133) _ ⟨hHeld, (qb BK128), (qb BK129), (qb BK130), (qb BK132), (qb BK133), GW132.out, GE132.out, NB128_132.out, NB132_128.out, NB129_132.out, NB132_129.out, NB130_132.out, NB132_130.out, NB133_132.out, NB132_133.out, GW133.out, GE133.out, NB128_133.out, NB133_128.out, NB129_133.out, NB133_129.out, NB130_133.out, NB133_130.out, (qs HB)⟩)
      ·skip
       rintro gb132 w10 ⟨hS_, h0_, h1_, h2_, h3_, h4_, h5_, h6_, h7_, h8_, h9_, h10_, h11_, h12_⟩
       have n0_ : Aside0 (w10.heap[gb128]? = some (.cells (Ar.cells .u32 8 a0) 33 (0, 0))) := ⟨h0_⟩
       have n1_ : Aside0 (w10.heap[gb129]? = some (.cells (Ar.cells .u8 64 a1) 78 (0, 0))) := ⟨h1_⟩
       have n2_ : Aside0 (w10.heap[gb130]? = some (.cells (Ar.cells .u32 8 (List.replicate 8 0)) 33 (0, 0))) := ⟨h2_⟩
       have n3_ : Aside0 (w10.heap[gb132]? = some (.cells (Ar.cells .u32 8 (List.replicate 8 0)) 33 (0, 0))) := ⟨h3_⟩
       have n4_ : Aside0 (w.heap.size ≤ gb132) := ⟨h4_⟩
       have n5_ : Aside0 (w.heap.size ≤ gb132) := ⟨h5_⟩
       have n6_ : Aside0 (gb128 ≠ gb132) := ⟨h6_⟩
       have n7_ : Aside0 (gb132 ≠ gb128) := ⟨h7_⟩
       have n8_ : Aside0 (gb129 ≠ gb132) := ⟨h8_⟩
       have n9_ : Aside0 (gb132 ≠ gb129) := ⟨h9_⟩
       have n10_ : Aside0 (gb130 ≠ gb132) := ⟨h10_⟩
       have n11_ : Aside0 (gb132 ≠ gb130) := ⟨h11_⟩
       have n12_ : Aside0 (Below w.heap.size w w10) := ⟨h12_⟩
       clear BK128 BK129 BK130 HB h0_ h1_ h2_ h3_ h4_ h5_ h6_ h7_ h8_ h9_ h10_ h11_ h12_
       have BK128 := n0_
       have BK129 := n1_
       have BK130 := n2_
       have BK132 := n3_
       have GW132 := n4_
       have GE132 := n5_
       have NB128_132 := n6_
       have NB132_128 := n7_
       have NB129_132 := n8_
       have NB132_129 := n9_
       have NB130_132 := n10_
       have NB132_130 := n11_
       have HB := n12_
       clear n0_ n1_ n2_ n3_ n4_ n5_ n6_ n7_ n8_ n9_ n10_ n11_ n12_
       have hHeld : w10.heap[gb128]? = some (.cells (Ar.cells .u32 8 a0) 33 (0, 0)) := hS_
       refine norm_ (a' := ?_) ?_ ?_
       rotate_left
       ·simp only [putAll, Act.put, zA_, zB_, zC_]
        rfl
       refine two_ (i := 1) (j := 3) (Ni := some 11) (Nj := some 6) #[true, true, true, false, false, false] #[true, false, true, true, false, false] rfl rfl rfl rfl (by kernel_rfl) (by decide) (by decide) (fun K hK => ?_) (fun K hK => ?_)
       ·skip
        refine goes_ Tryd.func64 (by kernel_rfl) rfl #[] (by rfl) rfl rfl ql ?_
        with_reducible refine (comp_constants.calls  t131 _ A3.out).mono ?_
        rintro e w11 ⟨rfl, hb⟩
        refine ⟨_, rfl, ?_⟩
        replace BK128 := Aside0.mk (qB BK128 hb)
        replace BK129 := Aside0.mk (qB BK129 hb)
        replace BK130 := Aside0.mk (qB BK130 hb)
        replace BK132 := Aside0.mk (qB BK132 hb)
        replace HB := Aside0.mk (below_step (qs HB) hb)
        (try clear hb)
        (try clear hb2)
        (try clear hk)
        (try clear hi)
        refine hK.out _ _ (BK128.out) (fun hHeld => ?_)
        clear hK K
        refine norm_ (a' := ?_) ?_ ?_
        rotate_left
        ·show Act.put _ (some 11) _ = _
         simp only [Act.put, zA_, zB_, zC_, i64_w, i32_w]
         rfl
        exact norm_ qp (hJ1_2 (gb132) _ ⟨hHeld, (qb BK128), (qb BK129), (qb BK130), (qb BK132), GW132.out, GE132.out, NB128_132.out, NB132_128.out, NB129_132.out, NB132_129.out, NB130_132.out, NB132_130.out, (qs HB)⟩)
       ·skip
        refine box_step ?hg (N := 6) ?hd (cs := (Ar.cells .u32 64 (List.replicate 64 0))) (t := 94) ?hr ?_; (case hd => rfl); (case hg => rfl); (case hr => first | exact Ar.box_run rfl rfl | exact Ar.alloc_run rfl (by kernel_rfl) | (go_simp; done) | (go_simp; rfl))
        intro gb133 hg w11 hbox hb
        have BK133 := Aside0.mk (hbox)
        have GW133 := Aside0.mk ((qe HB hg : w.heap.size ≤ gb133))
        have GE133 := Aside0.mk ((qe HB hg : w.heap.size ≤ gb133))
        replace HB := Aside0.mk (below_step (qs HB) hb)
        have NB128_133 := Aside0.mk ((qu BK128 hg : gb128 ≠ gb133))
        have NB133_128 := Aside0.mk ((qw BK128 hg : gb133 ≠ gb128))
        replace BK128 := Aside0.mk (qB BK128 hb)
        have NB129_133 := Aside0.mk ((qu BK129 hg : gb129 ≠ gb133))
        have NB133_129 := Aside0.mk ((qw BK129 hg : gb133 ≠ gb129))
        replace BK129 := Aside0.mk (qB BK129 hb)
        have NB130_133 := Aside0.mk ((qu BK130 hg : gb130 ≠ gb133))
        have NB133_130 := Aside0.mk ((qw BK130 hg : gb133 ≠ gb130))
        replace BK130 := Aside0.mk (qB BK130 hb)
        have NB132_133 := Aside0.mk ((qu BK132 hg : gb132 ≠ gb133))
        have NB133_132 := Aside0.mk ((qw BK132 hg : gb133 ≠ gb132))
        replace BK132 := Aside0.mk (qB BK132 hb)
        clear hb hbox hg
        refine hK.out _ _ (BK128.out) (fun hHeld => ?_)
        clear hK K
        refine norm_ (a' := ?_) ?_ ?_
        rotate_left
        ·show Act.put _ (some 6) _ = _
         simp only [Act.put, zA_, zB_, zC_, i64_w, i32_w]
         rfl
        exact norm_ qp (hJ2_3 (gb132, gb133) _ ⟨hHeld, (qb BK128), (qb BK129), (qb BK130), (qb BK132), (qb BK133), GW132.out, GE132.out, NB128_132.out, NB132_128.out, NB129_132.out, NB132_129.out, NB130_132.out, NB132_130.out, NB133_132.out, NB132_133.out, GW133.out, GE133.out, NB128_133.out, NB133_128.out, NB129_133.out, NB133_129.out, NB130_133.out, NB133_130.out, (qs HB)⟩)
     ·skip
      rintro _ w10 ⟨hS_, h0_, h1_, h2_, h3_⟩
      have n0_ : Aside0 (w10.heap[gb128]? = some (.cells (Ar.cells .u32 8 a0) 33 (0, 0))) := ⟨h0_⟩
      have n1_ : Aside0 (w10.heap[gb129]? = some (.cells (Ar.cells .u8 64 a1) 78 (0, 0))) := ⟨h1_⟩
      have n2_ : Aside0 (w10.heap[gb130]? = some (.cells (Ar.cells .u32 8 (List.replicate 8 0)) 33 (0, 0))) := ⟨h2_⟩
      have n3_ : Aside0 (Below w.heap.size w w10) := ⟨h3_⟩
      clear BK128 BK129 BK130 HB h0_ h1_ h2_ h3_
      have BK128 := n0_
      have BK129 := n1_
      have BK130 := n2_
      have HB := n3_
      clear n0_ n1_ n2_ n3_
      have hHeld : w10.heap[gb128]? = some (.cells (Ar.cells .u32 8 a0) 33 (0, 0)) := hS_
      refine norm_ (a' := ?_) ?_ ?_
      rotate_left
      ·simp only [putAll, Act.put, zA_, zB_, zC_]
       rfl
      refine two_ (i := 2) (j := 3) (Ni := some 5) (Nj := some 6) #[true, true, true, false, false, false] #[true, true, false, true, false, false] rfl rfl rfl rfl (by kernel_rfl) (by decide) (by decide) (fun K hK => ?_) (fun K hK => ?_)
      ·skip
       refine box_step ?hg (N := 5) ?hd (cs := (Ar.cells .u32 8 (List.replicate 8 0))) (t := 33) ?hr ?_; (case hd => rfl); (case hg => rfl); (case hr => first | exact Ar.box_run rfl rfl | exact Ar.alloc_run rfl (by kernel_rfl) | (go_simp; done) | (go_simp; rfl))
       intro gb132 hg w11 hbox hb
       have BK132 := Aside0.mk (hbox)
       have GW132 := Aside0.mk ((qe HB hg : w.heap.size ≤ gb132))
       have GE132 := Aside0.mk ((qe HB hg : w.heap.size ≤ gb132))
       replace HB := Aside0.mk (below_step (qs HB) hb)
       have NB128_132 := Aside0.mk ((qu BK128 hg : gb128 ≠ gb132))
       have NB132_128 := Aside0.mk ((qw BK128 hg : gb132 ≠ gb128))
       replace BK128 := Aside0.mk (qB BK128 hb)
       have NB129_132 := Aside0.mk ((qu BK129 hg : gb129 ≠ gb132))
       have NB132_129 := Aside0.mk ((qw BK129 hg : gb132 ≠ gb129))
       replace BK129 := Aside0.mk (qB BK129 hb)
       have NB130_132 := Aside0.mk ((qu BK130 hg : gb130 ≠ gb132))
       have NB132_130 := Aside0.mk ((qw BK130 hg : gb132 ≠ gb130))
       replace BK130 := Aside0.mk (qB BK130 hb)
       clear hb hbox hg
       refine hK.out _ _ (BK128.out) (fun hHeld => ?_)
       clear hK K
       refine norm_ (a' := ?_) ?_ ?_
       rotate_left
       ·show Act.put _ (some 5) _ = _
        simp only [Act.put, zA_, zB_, zC_, i64_w, i32_w]
        rfl
       exact norm_ qp (hJ1_2 (gb132) _ ⟨hHeld, (qb BK128), (qb BK129), (qb BK130), (qb BK132), GW132.out, GE132.out, NB128_132.out, NB132_128.out, NB129_132.out, NB132_129.out, NB130_132.out, NB132_130.out, (qs HB)⟩)
      ·skip
       refine box_step ?hg (N := 6) ?hd (cs := (Ar.cells .u32 64 (List.replicate 64 0))) (t := 94) ?hr ?_; (case hd => rfl); (case hg => rfl); (case hr => first | exact Ar.box_run rfl rfl | exact Ar.alloc_run rfl (by kernel_rfl) | (go_simp; done) | (go_simp; rfl))
       intro gb133 hg w11 hbox hb
       have BK133 := Aside0.mk (hbox)
       have GW133 := Aside0.mk ((qe HB hg : w.heap.size ≤ gb133))
       have GE133 := Aside0.mk ((qe HB hg : w.heap.size ≤ gb133))
       replace HB := Aside0.mk (below_step (qs HB) hb)
       have NB128_133 := Aside0.mk ((qu BK128 hg : gb128 ≠ gb133))
       have NB133_128 := Aside0.mk ((qw BK128 hg : gb133 ≠ gb128))
       replace BK128 := Aside0.mk (qB BK128 hb)
       have NB129_133 := Aside0.mk ((qu BK129 hg : gb129 ≠ gb133))
       have NB133_129 := Aside0.mk ((qw BK129 hg : gb133 ≠ gb129))
       replace BK129 := Aside0.mk (qB BK129 hb)
       have NB130_133 := Aside0.mk ((qu BK130 hg : gb130 ≠ gb133))
       have NB133_130 := Aside0.mk ((qw BK130 hg : gb133 ≠ gb130))
       replace BK130 := Aside0.mk (qB BK130 hb)
       clear hb hbox hg
       refine hK.out _ _ (BK128.out) (fun hHeld => ?_)
       clear hK K
       refine norm_ (a' := ?_) ?_ ?_
       rotate_left
       ·show Act.put _ (some 6) _ = _
        simp only [Act.put, zA_, zB_, zC_, i64_w, i32_w]
        rfl
       exact norm_ qp (hJ1_3 (gb133) _ ⟨hHeld, (qb BK128), (qb BK129), (qb BK130), (qb BK133), GW133.out, GE133.out, NB128_133.out, NB133_128.out, NB129_133.out, NB133_129.out, NB130_133.out, NB133_130.out, (qs HB)⟩)
    ·skip
     rintro ⟨gb132, gb133⟩ w11 ⟨hS_, h0_, h1_, h2_, h3_, h4_, h5_, h6_, h7_, h8_, h9_, h10_, h11_, h12_, h13_, h14_, h15_, h16_, h17_, h18_, h19_, h20_, h21_, h22_, h23_⟩
     have n0_ : Aside0 (w11.heap[gb128]? = some (.cells (Ar.cells .u32 8 a0) 33 (0, 0))) := ⟨h0_⟩
     have n1_ : Aside0 (w11.heap[gb129]? = some (.cells (Ar.cells .u8 64 a1) 78 (0, 0))) := ⟨h1_⟩
     have n2_ : Aside0 (w11.heap[gb130]? = some (.cells (Ar.cells .u32 8 (List.replicate 8 0)) 33 (0, 0))) := ⟨h2_⟩
     have n3_ : Aside0 (w11.heap[gb132]? = some (.cells (Ar.cells .u32 8 (List.replicate 8 0)) 33 (0, 0))) := ⟨h3_⟩
     have n4_ : Aside0 (w11.heap[gb133]? = some (.cells (Ar.cells .u32 64 (List.replicate 64 0)) 94 (0, 0))) := ⟨h4_⟩
     have n5_ : Aside0 (w.heap.size ≤ gb132) := ⟨h5_⟩
     have n6_ : Aside0 (w.heap.size ≤ gb132) := ⟨h6_⟩
     have n7_ : Aside0 (gb128 ≠ gb132) := ⟨h7_⟩
     have n8_ : Aside0 (gb132 ≠ gb128) := ⟨h8_⟩
     have n9_ : Aside0 (gb129 ≠ gb132) := ⟨h9_⟩
     have n10_ : Aside0 (gb132 ≠ gb129) := ⟨h10_⟩
     have n11_ : Aside0 (gb130 ≠ gb132) := ⟨h11_⟩
     have n12_ : Aside0 (gb132 ≠ gb130) := ⟨h12_⟩
     have n13_ : Aside0 (gb133 ≠ gb132) := ⟨h13_⟩
     have n14_ : Aside0 (gb132 ≠ gb133) := ⟨h14_⟩
     have n15_ : Aside0 (w.heap.size ≤ gb133) := ⟨h15_⟩
     have n16_ : Aside0 (w.heap.size ≤ gb133) := ⟨h16_⟩
     have n17_ : Aside0 (gb128 ≠ gb133) := ⟨h17_⟩
     have n18_ : Aside0 (gb133 ≠ gb128) := ⟨h18_⟩
     have n19_ : Aside0 (gb129 ≠ gb133) := ⟨h19_⟩
     have n20_ : Aside0 (gb133 ≠ gb129) := ⟨h20_⟩
     have n21_ : Aside0 (gb130 ≠ gb133) := ⟨h21_⟩
     have n22_ : Aside0 (gb133 ≠ gb130) := ⟨h22_⟩
     have n23_ : Aside0 (Below w.heap.size w w11) := ⟨h23_⟩
     clear BK128 BK129 BK130 HB h0_ h1_ h2_ h3_ h4_ h5_ h6_ h7_ h8_ h9_ h10_ h11_ h12_ h13_ h14_ h15_ h16_ h17_ h18_ h19_ h20_ h21_ h22_ h23_
     have BK128 := n0_
     have BK129 := n1_
     have BK130 := n2_
     have BK132 := n3_
     have BK133 := n4_
     have GW132 := n5_
     have GE132 := n6_
     have NB128_132 := n7_
     have NB132_128 := n8_
     have NB129_132 := n9_
     have NB132_129 := n10_
     have NB130_132 := n11_
     have NB132_130 := n12_
     have NB133_132 := n13_
     have NB132_133 := n14_
     have GW133 := n15_
     have GE133 := n16_
     have NB128_133 := n17_
     have NB133_128 := n18_
     have NB129_133 := n19_
     have NB133_129 := n20_
     have NB130_133 := n21_
     have NB133_130 := n22_
     have HB := n23_
     clear n0_ n1_ n2_ n3_ n4_ n5_ n6_ n7_ n8_ n9_ n10_ n11_ n12_ n13_ n14_ n15_ n16_ n17_ n18_ n19_ n20_ n21_ n22_ n23_
     have hHeld : w11.heap[gb128]? = some (.cells (Ar.cells .u32 8 a0) 33 (0, 0)) := hS_
     refine norm_ (a' := ?_) ?_ ?_
     rotate_left
     ·simp only [putAll, Act.put, zA_, zB_, zC_]
      rfl
     refine one_ (i := 1) (N := some 11) #[true, true, true, true, false, false] rfl rfl (by kernel_rfl) (by decide) (fun K hK => ?_)
     refine goes_ Tryd.func64 (by kernel_rfl) rfl #[] (by rfl) rfl rfl ql ?_
     with_reducible refine (comp_constants.calls  t131 _ A3.out).mono ?_
     rintro e w12 ⟨rfl, hb⟩
     refine ⟨_, rfl, ?_⟩
     replace BK128 := Aside0.mk (qB BK128 hb)
     replace BK129 := Aside0.mk (qB BK129 hb)
     replace BK130 := Aside0.mk (qB BK130 hb)
     replace BK132 := Aside0.mk (qB BK132 hb)
     replace BK133 := Aside0.mk (qB BK133 hb)
     replace HB := Aside0.mk (below_step (qs HB) hb)
     (try clear hb)
     (try clear hb2)
     (try clear hk)
     (try clear hi)
     refine hK.out _ _ (BK128.out) (fun hHeld => ?_)
     clear hK K
     refine norm_ (a' := ?_) ?_ ?_
     rotate_left
     ·show Act.put _ (some 11) _ = _
      simp only [Act.put, zA_, zB_, zC_, i64_w, i32_w]
      rfl
     exact norm_ qp (hJ1_2_3 (gb132, gb133) _ ⟨hHeld, (qb BK128), (qb BK129), (qb BK130), (qb BK132), (qb BK133), GW132.out, GE132.out, NB128_132.out, NB132_128.out, NB129_132.out, NB132_129.out, NB130_132.out, NB132_130.out, NB133_132.out, NB132_133.out, GW133.out, GE133.out, NB128_133.out, NB133_128.out, NB129_133.out, NB133_129.out, NB130_133.out, NB133_130.out, (qs HB)⟩)
   ·skip
    rintro gb133 w11 ⟨hS_, h0_, h1_, h2_, h3_, h4_, h5_, h6_, h7_, h8_, h9_, h10_, h11_, h12_⟩
    have n0_ : Aside0 (w11.heap[gb128]? = some (.cells (Ar.cells .u32 8 a0) 33 (0, 0))) := ⟨h0_⟩
    have n1_ : Aside0 (w11.heap[gb129]? = some (.cells (Ar.cells .u8 64 a1) 78 (0, 0))) := ⟨h1_⟩
    have n2_ : Aside0 (w11.heap[gb130]? = some (.cells (Ar.cells .u32 8 (List.replicate 8 0)) 33 (0, 0))) := ⟨h2_⟩
    have n3_ : Aside0 (w11.heap[gb133]? = some (.cells (Ar.cells .u32 64 (List.replicate 64 0)) 94 (0, 0))) := ⟨h3_⟩
    have n4_ : Aside0 (w.heap.size ≤ gb133) := ⟨h4_⟩
    have n5_ : Aside0 (w.heap.size ≤ gb133) := ⟨h5_⟩
    have n6_ : Aside0 (gb128 ≠ gb133) := ⟨h6_⟩
    have n7_ : Aside0 (gb133 ≠ gb128) := ⟨h7_⟩
    have n8_ : Aside0 (gb129 ≠ gb133) := ⟨h8_⟩
    have n9_ : Aside0 (gb133 ≠ gb129) := ⟨h9_⟩
    have n10_ : Aside0 (gb130 ≠ gb133) := ⟨h10_⟩
    have n11_ : Aside0 (gb133 ≠ gb130) := ⟨h11_⟩
    have n12_ : Aside0 (Below w.heap.size w w11) := ⟨h12_⟩
    clear BK128 BK129 BK130 HB h0_ h1_ h2_ h3_ h4_ h5_ h6_ h7_ h8_ h9_ h10_ h11_ h12_
    have BK128 := n0_
    have BK129 := n1_
    have BK130 := n2_
    have BK133 := n3_
    have GW133 := n4_
    have GE133 := n5_
    have NB128_133 := n6_
    have NB133_128 := n7_
    have NB129_133 := n8_
    have NB133_129 := n9_
    have NB130_133 := n10_
    have NB133_130 := n11_
    have HB := n12_
    clear n0_ n1_ n2_ n3_ n4_ n5_ n6_ n7_ n8_ n9_ n10_ n11_ n12_
    have hHeld : w11.heap[gb128]? = some (.cells (Ar.cells .u32 8 a0) 33 (0, 0)) := hS_
    refine norm_ (a' := ?_) ?_ ?_
    rotate_left
    ·simp only [putAll, Act.put, zA_, zB_, zC_]
     rfl
    refine one_ (i := 2) (N := some 5) #[true, true, true, true, false, false] rfl rfl (by kernel_rfl) (by decide) (fun K hK => ?_)
    refine box_step ?hg (N := 5) ?hd (cs := (Ar.cells .u32 8 (List.replicate 8 0))) (t := 33) ?hr ?_; (case hd => rfl); (case hg => rfl); (case hr => first | exact Ar.box_run rfl rfl | exact Ar.alloc_run rfl (by kernel_rfl) | (go_simp; done) | (go_simp; rfl))
    intro gb132 hg w12 hbox hb
    have BK132 := Aside0.mk (hbox)
    have GW132 := Aside0.mk ((qe HB hg : w.heap.size ≤ gb132))
    have GE132 := Aside0.mk ((qe HB hg : w.heap.size ≤ gb132))
    replace HB := Aside0.mk (below_step (qs HB) hb)
    have NB128_132 := Aside0.mk ((qu BK128 hg : gb128 ≠ gb132))
    have NB132_128 := Aside0.mk ((qw BK128 hg : gb132 ≠ gb128))
    replace BK128 := Aside0.mk (qB BK128 hb)
    have NB129_132 := Aside0.mk ((qu BK129 hg : gb129 ≠ gb132))
    have NB132_129 := Aside0.mk ((qw BK129 hg : gb132 ≠ gb129))
    replace BK129 := Aside0.mk (qB BK129 hb)
    have NB130_132 := Aside0.mk ((qu BK130 hg : gb130 ≠ gb132))
    have NB132_130 := Aside0.mk ((qw BK130 hg : gb132 ≠ gb130))
    replace BK130 := Aside0.mk (qB BK130 hb)
    have NB133_132 := Aside0.mk ((qu BK133 hg : gb133 ≠ gb132))
    have NB132_133 := Aside0.mk ((qw BK133 hg : gb132 ≠ gb133))
    replace BK133 := Aside0.mk (qB BK133 hb)
    clear hb hbox hg
    refine hK.out _ _ (BK128.out) (fun hHeld => ?_)
    clear hK K
    refine norm_ (a' := ?_) ?_ ?_
    rotate_left
    ·show Act.put _ (some 5) _ = _
     simp only [Act.put, zA_, zB_, zC_, i64_w, i32_w]
     rfl
    exact norm_ qp (hJ1_2_3 (gb132, gb133) _ ⟨hHeld, (qb BK128), (qb BK129), (qb BK130), (qb BK132), (qb BK133), GW132.out, GE132.out, NB128_132.out, NB132_128.out, NB129_132.out, NB132_129.out, NB130_132.out, NB132_130.out, NB133_132.out, NB132_133.out, GW133.out, GE133.out, NB128_133.out, NB133_128.out, NB129_133.out, NB133_129.out, NB130_133.out, NB133_130.out, (qs HB)⟩)
  ·skip
   rintro gb132 w11 ⟨hS_, h0_, h1_, h2_, h3_, h4_, h5_, h6_, h7_, h8_, h9_, h10_, h11_, h12_⟩
   have n0_ : Aside0 (w11.heap[gb128]? = some (.cells (Ar.cells .u32 8 a0) 33 (0, 0))) := ⟨h0_⟩
   have n1_ : Aside0 (w11.heap[gb129]? = some (.cells (Ar.cells .u8 64 a1) 78 (0, 0))) := ⟨h1_⟩
   have n2_ : Aside0 (w11.heap[gb130]? = some (.cells (Ar.cells .u32 8 (List.replicate 8 0)) 33 (0, 0))) := ⟨h2_⟩
   have n3_ : Aside0 (w11.heap[gb132]? = some (.cells (Ar.cells .u32 8 (List.replicate 8 0)) 33 (0, 0))) := ⟨h3_⟩
   have n4_ : Aside0 (w.heap.size ≤ gb132) := ⟨h4_⟩
   have n5_ : Aside0 (w.heap.size ≤ gb132) := ⟨h5_⟩
   have n6_ : Aside0 (gb128 ≠ gb132) := ⟨h6_⟩
   have n7_ : Aside0 (gb132 ≠ gb128) := ⟨h7_⟩
   have n8_ : Aside0 (gb129 ≠ gb132) := ⟨h8_⟩
   have n9_ : Aside0 (gb132 ≠ gb129) := ⟨h9_⟩
   have n10_ : Aside0 (gb130 ≠ gb132) := ⟨h10_⟩
   have n11_ : Aside0 (gb132 ≠ gb130) := ⟨h11_⟩
   have n12_ : Aside0 (Below w.heap.size w w11) := ⟨h12_⟩
   clear BK128 BK129 BK130 HB h0_ h1_ h2_ h3_ h4_ h5_ h6_ h7_ h8_ h9_ h10_ h11_ h12_
   have BK128 := n0_
   have BK129 := n1_
   have BK130 := n2_
   have BK132 := n3_
   have GW132 := n4_
   have GE132 := n5_
   have NB128_132 := n6_
   have NB132_128 := n7_
   have NB129_132 := n8_
   have NB132_129 := n9_
   have NB130_132 := n10_
   have NB132_130 := n11_
   have HB := n12_
   clear n0_ n1_ n2_ n3_ n4_ n5_ n6_ n7_ n8_ n9_ n10_ n11_ n12_
   have hHeld : w11.heap[gb128]? = some (.cells (Ar.cells .u32 8 a0) 33 (0, 0)) := hS_
   refine norm_ (a' := ?_) ?_ ?_
   rotate_left
   ·simp only [putAll, Act.put, zA_, zB_, zC_]
    rfl
   refine one_ (i := 3) (N := some 6) #[true, true, true, true, false, false] rfl rfl (by kernel_rfl) (by decide) (fun K hK => ?_)
   refine box_step ?hg (N := 6) ?hd (cs := (Ar.cells .u32 64 (List.replicate 64 0))) (t := 94) ?hr ?_; (case hd => rfl); (case hg => rfl); (case hr => first | exact Ar.box_run rfl rfl | exact Ar.alloc_run rfl (by kernel_rfl) | (go_simp; done) | (go_simp; rfl))
   intro gb133 hg w12 hbox hb
   have BK133 := Aside0.mk (hbox)
   have GW133 := Aside0.mk ((qe HB hg : w.heap.size ≤ gb133))
   have GE133 := Aside0.mk ((qe HB hg : w.heap.size ≤ gb133))
   replace HB := Aside0.mk (below_step (qs HB) hb)
   have NB128_133 := Aside0.mk ((qu BK128 hg : gb128 ≠ gb133))
   have NB133_128 := Aside0.mk ((qw BK128 hg : gb133 ≠ gb128))
   replace BK128 := Aside0.mk (qB BK128 hb)
   have NB129_133 := Aside0.mk ((qu BK129 hg : gb129 ≠ gb133))
   have NB133_129 := Aside0.mk ((qw BK129 hg : gb133 ≠ gb129))
   replace BK129 := Aside0.mk (qB BK129 hb)
   have NB130_133 := Aside0.mk ((qu BK130 hg : gb130 ≠ gb133))
   have NB133_130 := Aside0.mk ((qw BK130 hg : gb133 ≠ gb130))
   replace BK130 := Aside0.mk (qB BK130 hb)
   have NB132_133 := Aside0.mk ((qu BK132 hg : gb132 ≠ gb133))
   have NB133_132 := Aside0.mk ((qw BK132 hg : gb133 ≠ gb132))
   replace BK132 := Aside0.mk (qB BK132 hb)
   clear hb hbox hg
   refine hK.out _ _ (BK128.out) (fun hHeld => ?_)
   clear hK K
   refine norm_ (a' := ?_) ?_ ?_
   rotate_left
   ·show Act.put _ (some 6) _ = _
    simp only [Act.put, zA_, zB_, zC_, i64_w, i32_w]
    rfl
   exact norm_ qp (hJ1_2_3 (gb132, gb133) _ ⟨hHeld, (qb BK128), (qb BK129), (qb BK130), (qb BK132), (qb BK133), GW132.out, GE132.out, NB128_132.out, NB132_128.out, NB129_132.out, NB132_129.out, NB130_132.out, NB132_130.out, NB133_132.out, NB132_133.out, GW133.out, GE133.out, NB128_133.out, NB133_128.out, NB129_133.out, NB133_129.out, NB130_133.out, NB133_130.out, (qs HB)⟩)
 rintro ⟨gb132, gb133⟩ w12 ⟨hS_, h0_, h1_, h2_, h3_, h4_, h5_, h6_, h7_, h8_, h9_, h10_, h11_, h12_, h13_, h14_, h15_, h16_, h17_, h18_, h19_, h20_, h21_, h22_, h23_⟩
 have n0_ : Aside0 (w12.heap[gb128]? = some (.cells (Ar.cells .u32 8 a0) 33 (0, 0))) := ⟨h0_⟩
 have n1_ : Aside0 (w12.heap[gb129]? = some (.cells (Ar.cells .u8 64 a1) 78 (0, 0))) := ⟨h1_⟩
 have n2_ : Aside0 (w12.heap[gb130]? = some (.cells (Ar.cells .u32 8 (List.replicate 8 0)) 33 (0, 0))) := ⟨h2_⟩
 have n3_ : Aside0 (w12.heap[gb132]? = some (.cells (Ar.cells .u32 8 (List.replicate 8 0)) 33 (0, 0))) := ⟨h3_⟩
 have n4_ : Aside0 (w12.heap[gb133]? = some (.cells (Ar.cells .u32 64 (List.replicate 64 0)) 94 (0, 0))) := ⟨h4_⟩
 have n5_ : Aside0 (w.heap.size ≤ gb132) := ⟨h5_⟩
 have n6_ : Aside0 (w.heap.size ≤ gb132) := ⟨h6_⟩
 have n7_ : Aside0 (gb128 ≠ gb132) := ⟨h7_⟩
 have n8_ : Aside0 (gb132 ≠ gb128) := ⟨h8_⟩
 have n9_ : Aside0 (gb129 ≠ gb132) := ⟨h9_⟩
 have n10_ : Aside0 (gb132 ≠ gb129) := ⟨h10_⟩
 have n11_ : Aside0 (gb130 ≠ gb132) := ⟨h11_⟩
 have n12_ : Aside0 (gb132 ≠ gb130) := ⟨h12_⟩
 have n13_ : Aside0 (gb133 ≠ gb132) := ⟨h13_⟩
 have n14_ : Aside0 (gb132 ≠ gb133) := ⟨h14_⟩
 have n15_ : Aside0 (w.heap.size ≤ gb133) := ⟨h15_⟩
 have n16_ : Aside0 (w.heap.size ≤ gb133) := ⟨h16_⟩
 have n17_ : Aside0 (gb128 ≠ gb133) := ⟨h17_⟩
 have n18_ : Aside0 (gb133 ≠ gb128) := ⟨h18_⟩
 have n19_ : Aside0 (gb129 ≠ gb133) := ⟨h19_⟩
 have n20_ : Aside0 (gb133 ≠ gb129) := ⟨h20_⟩
 have n21_ : Aside0 (gb130 ≠ gb133) := ⟨h21_⟩
 have n22_ : Aside0 (gb133 ≠ gb130) := ⟨h22_⟩
 have n23_ : Aside0 (Below w.heap.size w w12) := ⟨h23_⟩
 clear BK128 BK129 BK130 HB h0_ h1_ h2_ h3_ h4_ h5_ h6_ h7_ h8_ h9_ h10_ h11_ h12_ h13_ h14_ h15_ h16_ h17_ h18_ h19_ h20_ h21_ h22_ h23_
 have BK128 := n0_
 have BK129 := n1_
 have BK130 := n2_
 have BK132 := n3_
 have BK133 := n4_
 have GW132 := n5_
 have GE132 := n6_
 have NB128_132 := n7_
 have NB132_128 := n8_
 have NB129_132 := n9_
 have NB132_129 := n10_
 have NB130_132 := n11_
 have NB132_130 := n12_
 have NB133_132 := n13_
 have NB132_133 := n14_
 have GW133 := n15_
 have GE133 := n16_
 have NB128_133 := n17_
 have NB133_128 := n18_
 have NB129_133 := n19_
 have NB133_129 := n20_
 have NB130_133 := n21_
 have NB133_130 := n22_
 have HB := n23_
 clear n0_ n1_ n2_ n3_ n4_ n5_ n6_ n7_ n8_ n9_ n10_ n11_ n12_ n13_ n14_ n15_ n16_ n17_ n18_ n19_ n20_ n21_ n22_ n23_
 have hHeld : w12.heap[gb128]? = some (.cells (Ar.cells .u32 8 a0) 33 (0, 0)) := hS_
 refine norm_ (a' := ?_) ?_ ?_
 rotate_left
 ·simp only [putAll, Act.put, zA_, zB_, zC_]
  rfl
 refine one_ (i := 4) (N := none) #[true, true, true, true, true, false] rfl rfl (by kernel_rfl) (by decide) (fun K hK => ?_)
 refine Ar.store_all_step (by rfl) rfl rfl Tryd.underlying33 (by kernel_rfl) (g := gb132) rfl (z := a0) qg (qb BK132) ?_; intro w13 hbk_ hg
 replace BK128 := Aside0.mk (qG BK128 hg (fun e_ => NB128_132.out (Option.some.inj e_)))
 replace BK129 := Aside0.mk (qG BK129 hg (fun e_ => NB129_132.out (Option.some.inj e_)))
 replace BK130 := Aside0.mk (qG BK130 hg (fun e_ => NB130_132.out (Option.some.inj e_)))
 replace BK133 := Aside0.mk (qG BK133 hg (fun e_ => NB133_132.out (Option.some.inj e_)))
 replace BK132 := Aside0.mk (hbk_)
 replace HB := Aside0.mk (Below.grown (qs HB) hg ((below_size (qs HB))) (fun _ e_ => by cases e_; exact GE132.out))
 clear hbk_ hg
 refine hK.out _ _ (BK128.out) (fun hHeld => ?_)
 clear hK K
 refine one_ (i := 5) (N := none) #[true, true, true, true, true, true] rfl rfl (by kernel_rfl) (by decide) (fun K hK => ?_)
 refine Ar.store_all_step (by rfl) rfl rfl Tryd.underlying94 (by kernel_rfl) (g := gb133) rfl (z := t131) qg (qb BK133) ?_; intro w14 hbk_ hg
 replace BK128 := Aside0.mk (qG BK128 hg (fun e_ => NB128_133.out (Option.some.inj e_)))
 replace BK129 := Aside0.mk (qG BK129 hg (fun e_ => NB129_133.out (Option.some.inj e_)))
 replace BK130 := Aside0.mk (qG BK130 hg (fun e_ => NB130_133.out (Option.some.inj e_)))
 replace BK132 := Aside0.mk (qG BK132 hg (fun e_ => NB132_133.out (Option.some.inj e_)))
 replace BK133 := Aside0.mk (hbk_)
 replace HB := Aside0.mk (Below.grown (qs HB) hg ((below_size (qs HB))) (fun _ e_ => by cases e_; exact GE133.out))
 clear hbk_ hg
 refine hK.out _ _ (BK128.out) (fun hHeld => ?_)
 clear hK K
 refine done_ (by kernel_rfl) ?_
 try go_wp2_with (first | ((with_reducible refine gate_dst (N := 12) rfl ?_); (try (refine gate_guard (by rfl) ?_; dsimp only)); refine Ar.load_event rfl (D := 12) rfl (T := 78) rfl Tryd.underlying78 (by kernel_rfl) (g := gb129) rfl (qb BK129) ?_) | ((with_reducible refine gate_callee (f := 65) rfl ?_); refine goesL_ (some 13) rfl rfl Tryd.func65 (by kernel_rfl) rfl #[.agg (Ar.cells .u8 64 a1)] rfl ql ?_; (with_reducible refine (plan_Of.calls k a1 t134 _ A4.out).mono ?_); rintro e w15 ⟨rfl, hb⟩; refine ⟨_, rfl, ?_⟩; replace BK128 := Aside0.mk (qB BK128 hb); replace BK129 := Aside0.mk (qB BK129 hb); replace BK130 := Aside0.mk (qB BK130 hb); replace BK132 := Aside0.mk (qB BK132 hb); replace BK133 := Aside0.mk (qB BK133 hb); replace HB := Aside0.mk (below_step (qs HB) hb); (try clear hb); (try clear hb2); (try clear hk); (try clear hi)))
 go_loopg [14] k (fun kq v14 w' => ∃ (x14_1 : Int) (x133000_1 : List Int), v14 = .int .i64 x14_1 ∧ Aside0 (comp_Take.l0 kq t134 x14_1 a0 x133000_1 t131 = some r) ∧ Aside0 (kq ≤ k) ∧ Aside0 (w'.heap[gb128]? = some (.cells (Ar.cells .u32 8 a0) 33 (0, 0))) ∧ Aside0 (w'.heap[gb129]? = some (.cells (Ar.cells .u8 64 a1) 78 (0, 0))) ∧ Aside0 (w'.heap[gb130]? = some (.cells (Ar.cells .u32 8 (List.replicate 8 0)) 33 (0, 0))) ∧ Aside0 (w'.heap[gb132]? = some (.cells (Ar.cells .u32 8 x133000_1) 33 (0, 0))) ∧ Aside0 (w'.heap[gb133]? = some (.cells (Ar.cells .u32 64 t131) 94 (0, 0))) ∧ Aside0 (Below w.heap.size w w'))
 case atStart => exact ⟨(0), (a0), (by first | rfl | (simp; done) | (simp [*]; done)), H', ⟨Nat.le_refl _⟩, ⟨by (with_reducible repeat (first | refine blk_drewN ?_ _ | refine blk_drew ?_ | refine blk_alloc ?_ _)); exact BK128.out⟩, ⟨by (with_reducible repeat (first | refine blk_drewN ?_ _ | refine blk_drew ?_ | refine blk_alloc ?_ _)); exact BK129.out⟩, ⟨by (with_reducible repeat (first | refine blk_drewN ?_ _ | refine blk_drew ?_ | refine blk_alloc ?_ _)); exact BK130.out⟩, ⟨by (with_reducible repeat (first | refine blk_drewN ?_ _ | refine blk_drew ?_ | refine blk_alloc ?_ _)); exact BK132.out⟩, ⟨by (with_reducible repeat (first | refine blk_drewN ?_ _ | refine blk_drew ?_ | refine blk_alloc ?_ _)); exact BK133.out⟩, ⟨by repeat (first | (with_reducible first | exact HB.out | apply below_alloc | apply pw_below_drewN | apply below_drew1 | refine below_set ?_ GE128.out | refine below_set ?_ GE129.out | refine below_set ?_ GE130.out | refine below_set ?_ GE132.out | refine below_set ?_ GE133.out) | exact HB.out)⟩⟩
 case round =>
  clear H'
  try clear p2
  try clear c6
  obtain ⟨x14_1, x133000_1, rfl, HA, HK1, BK128, BK129, BK130, BK132, BK133, HB⟩ := hrel
  cases gk with
  | zero => exact absurd HA.out (by simp [comp_Take.l0])
  | succ k1 =>
   have H := HA.out
   clear HA
   simp only [comp_Take.l0] at H
   by_cases c16 : x14_1 < 64
   ·rw [if_pos c16] at H
    have c16b0 : decide (x14_1 < 64) = true := decide_eq_true c16
    clear c16
    by_cases c17 : 0 ≤ x14_1
    ·rw [if_pos c17] at H
     have c17b0 : decide (0 ≤ x14_1) = true := decide_eq_true c17
     clear c17
     replace H := Option.bind_eq_some_iff.mp H
     obtain ⟨t135, A180, H⟩ := H
     replace H : (comp_Take.l0 k1 t134 (wrap64 (x14_1 + 1)) a0 t135 t131) = some r := H
     have A18 := Aside0.mk A180
     clear A180
     have H' := Aside0.mk H
     clear H
     try go_wp2_with (first | ((with_reducible refine gate_dst (N := 17) rfl ?_); (try (refine gate_guard (by rfl) ?_; dsimp only)); refine Ar.vidx_event rfl (D := 17) rfl (T := 95) rfl Tryd.underlying95 (by kernel_rfl) Tryd.underlying31 (k := .u32) (n := 64) (l := t134) qg (j := x14_1) qg qo qo ?_))
     replace BK128 := Aside0.mk (blk_drew BK128.out)
     replace BK129 := Aside0.mk (blk_drew BK129.out)
     replace BK130 := Aside0.mk (blk_drew BK130.out)
     replace BK132 := Aside0.mk (blk_drew BK132.out)
     replace BK133 := Aside0.mk (blk_drew BK133.out)
     replace HB := Aside0.mk (below_drew1 HB.out)
     have p20 : (0 ≤ (x14_1 : Int)) = True := eq_true qo
     have q20 : ((x14_1 : Int) < 64) = True := eq_true qo
     refine start_ (n := 7) (S := fun w' => w'.heap[gb132]? = some (.cells (Ar.cells .u32 8 x133000_1) 33 (0, 0)) ∧ w'.cell? ⟨gb133, (x14_1 : Int).toNat, none⟩ = some (.int .u32 (Ar.get 64 t131 x14_1))) (ds := [6]) #[false, false, false, false, false, false, false] (by kernel_rfl) rfl rfl ⟨BK132.out, (Ar.cell_run (j := x14_1) BK133.out qo qo)⟩ (fun hHeld => ?_)
     generalize wr.drew = w19 at BK128 BK129 BK130 BK132 BK133 HB hHeld ⊢
     refine pure_ (i := 1) (N := some 19) (v := ?_) (a' := ?_) #[false, true, false, false, false, false, false] rfl rfl (by kernel_rfl) (fun _ _ _ h => h) (Or.inl ⟨by rfl, ?_⟩) ?_ ?_
     rotate_left
     ·intro w'
      go_simp
      with_reducible rfl
     rotate_left
     ·simp only [Act.put, zA_, zB_, zC_, i64_w, i32_w]
      rfl
     refine pure_ (i := 2) (N := some 20) (v := ?_) (a' := ?_) #[false, true, true, false, false, false, false] rfl rfl (by kernel_rfl) (fun _ _ _ h => h) (Or.inl ⟨by rfl, ?_⟩) ?_ ?_
     rotate_left
     ·intro w'
      go_simp
      with_reducible rfl
     rotate_left
     ·simp only [Act.put, zA_, zB_, zC_, i64_w, i32_w]
      rfl
     refine pure_ (i := 3) (N := some 21) (v := ?_) (a' := ?_) #[false, true, true, true, false, false, false] rfl rfl (by kernel_rfl) (fun _ _ _ h => h) (Or.inl ⟨by rfl, ?_⟩) ?_ ?_
     rotate_left
     ·intro w'
      go_simp
      with_reducible rfl
     rotate_left
     ·simp only [Act.put, zA_, zB_, zC_, i64_w, i32_w]
      rfl
     refine take_ (i := 0) (N := some 18) (v := ?_) (a' := ?_) #[true, true, true, true, false, false, false] rfl rfl (by kernel_rfl) (fun _ _ _ h => h) (Or.inl ⟨by rfl, ?_⟩) hHeld ?_ ?_
     rotate_left
     ·rintro w' ⟨s0, s1⟩
      first | (refine (Ar.load_run rfl Tryd.underlying33 (by kernel_rfl) rfl (by assumption)).trans ?_; with_reducible rfl) | (go_simp; with_reducible rfl)
     rotate_left
     ·simp only [Act.put, zA_, zB_, zC_, i64_w, i32_w]
      rfl
     refine take_ (i := 4) (N := some 22) (v := ?_) (a' := ?_) #[true, true, true, true, true, false, false] rfl rfl (by kernel_rfl) (fun _ _ _ h => h) (Or.inl ⟨by rfl, ?_⟩) hHeld ?_ ?_
     rotate_left
     ·rintro w' ⟨s0, s1⟩
      go_simp
      with_reducible rfl
     rotate_left
     ·simp only [Act.put, zA_, zB_, zC_, i64_w, i32_w]
      rfl
     refine one_ (i := 5) (N := some 23) #[true, true, true, true, true, true, false] rfl rfl (by kernel_rfl) (by decide) (fun K hK => ?_)
     refine goes_ Tryd.func66 (by kernel_rfl) rfl #[.agg (Ar.cells .u32 8 x133000_1), .int .u32 (Ar.get 64 t134 x14_1), .int .u32 (Ar.get 64 t131 x14_1)] (by rfl) rfl rfl ql ?_
     with_reducible refine (comp_Round.calls x133000_1 (Ar.get 64 t134 x14_1) (Ar.get 64 t131 x14_1) t135 _ A18.out).mono ?_
     rintro e w21 ⟨rfl, hb⟩
     refine ⟨_, rfl, ?_⟩
     replace BK128 := Aside0.mk (qB BK128 hb)
     replace BK129 := Aside0.mk (qB BK129 hb)
     replace BK130 := Aside0.mk (qB BK130 hb)
     replace BK132 := Aside0.mk (qB BK132 hb)
     replace BK133 := Aside0.mk (qB BK133 hb)
     replace HB := Aside0.mk (below_step (qs HB) hb)
     (try clear hb)
     (try clear hb2)
     (try clear hk)
     (try clear hi)
     refine hK.out _ _ ⟨BK132.out, (Ar.cell_run (j := x14_1) BK133.out qo qo)⟩ (fun hHeld => ?_)
     clear hK K
     refine norm_ (a' := ?_) ?_ ?_
     rotate_left
     ·show Act.put _ (some 23) _ = _
      simp only [Act.put, zA_, zB_, zC_, i64_w, i32_w]
      rfl
     refine last_ (i := 6) (N := none) #[true, true, true, true, true, true, true] rfl rfl (by kernel_rfl) (by decide) (fun K hK => ?_)
     refine Ar.store_all_step (by rfl) rfl rfl Tryd.underlying33 (by kernel_rfl) (g := gb132) rfl (z := t135) qg (qb BK132) ?_; intro w22 hbk_ hg
     replace BK128 := Aside0.mk (qG BK128 hg (fun e_ => NB128_132.out (Option.some.inj e_)))
     replace BK129 := Aside0.mk (qG BK129 hg (fun e_ => NB129_132.out (Option.some.inj e_)))
     replace BK130 := Aside0.mk (qG BK130 hg (fun e_ => NB130_132.out (Option.some.inj e_)))
     replace BK133 := Aside0.mk (qG BK133 hg (fun e_ => NB133_132.out (Option.some.inj e_)))
     replace BK132 := Aside0.mk (hbk_)
     replace HB := Aside0.mk (Below.grown (qs HB) hg ((below_size (qs HB))) (fun _ e_ => by cases e_; exact GE132.out))
     clear hbk_ hg
     refine hK.out _ _ ?_
     clear hK K
     refine done_ (by kernel_rfl) ?_
     try go_wp2
     go_roundg k1
     case measure => have := HK1.out; omega
     case rel => exact ⟨(wrap64 (x14_1 + 1)), (t135), (by first | rfl | (simp; done) | (simp [*]; done)), H', ⟨by have := HK1.out; omega⟩, ⟨by (with_reducible repeat (first | refine blk_drewN ?_ _ | refine blk_drew ?_ | refine blk_alloc ?_ _)); exact BK128.out⟩, ⟨by (with_reducible repeat (first | refine blk_drewN ?_ _ | refine blk_drew ?_ | refine blk_alloc ?_ _)); exact BK129.out⟩, ⟨by (with_reducible repeat (first | refine blk_drewN ?_ _ | refine blk_drew ?_ | refine blk_alloc ?_ _)); exact BK130.out⟩, ⟨by (with_reducible repeat (first | refine blk_drewN ?_ _ | refine blk_drew ?_ | refine blk_alloc ?_ _)); exact BK132.out⟩, ⟨by (with_reducible repeat (first | refine blk_drewN ?_ _ | refine blk_drew ?_ | refine blk_alloc ?_ _)); exact BK133.out⟩, ⟨by repeat (first | (with_reducible first | exact HB.out | apply below_alloc | apply pw_below_drewN | apply below_drew1 | refine below_set ?_ GE128.out | refine below_set ?_ GE129.out | refine below_set ?_ GE130.out | refine below_set ?_ GE132.out | refine below_set ?_ GE133.out) | exact HB.out)⟩⟩
    ·rw [if_neg c17] at H
     exact absurd H (by simp)
   ·rw [if_neg c16] at H
    have c16b0 : decide (x14_1 < 64) = false := decide_eq_false c16
    clear c16
    have H' := Aside0.mk H
    clear H
    go_wp2
    go_loopg [25] k1 (fun kq v25 w' => ∃ (x25_2 : Int) (x133000_2 : List Int), v25 = .int .i64 x25_2 ∧ Aside0 (comp_Take.l1 kq x25_2 a0 x133000_2 = some r) ∧ Aside0 (kq ≤ k1) ∧ Aside0 (w'.heap[gb128]? = some (.cells (Ar.cells .u32 8 a0) 33 (0, 0))) ∧ Aside0 (w'.heap[gb129]? = some (.cells (Ar.cells .u8 64 a1) 78 (0, 0))) ∧ Aside0 (w'.heap[gb130]? = some (.cells (Ar.cells .u32 8 (List.replicate 8 0)) 33 (0, 0))) ∧ Aside0 (w'.heap[gb132]? = some (.cells (Ar.cells .u32 8 x133000_2) 33 (0, 0))) ∧ Aside0 (w'.heap[gb133]? = some (.cells (Ar.cells .u32 64 t131) 94 (0, 0))) ∧ Aside0 (Below w.heap.size w w'))
    case atStart => exact ⟨(0), (x133000_1), (by first | rfl | (simp; done) | (simp [*]; done)), H', ⟨Nat.le_refl _⟩, ⟨by (with_reducible repeat (first | refine blk_drewN ?_ _ | refine blk_drew ?_ | refine blk_alloc ?_ _)); exact BK128.out⟩, ⟨by (with_reducible repeat (first | refine blk_drewN ?_ _ | refine blk_drew ?_ | refine blk_alloc ?_ _)); exact BK129.out⟩, ⟨by (with_reducible repeat (first | refine blk_drewN ?_ _ | refine blk_drew ?_ | refine blk_alloc ?_ _)); exact BK130.out⟩, ⟨by (with_reducible repeat (first | refine blk_drewN ?_ _ | refine blk_drew ?_ | refine blk_alloc ?_ _)); exact BK132.out⟩, ⟨by (with_reducible repeat (first | refine blk_drewN ?_ _ | refine blk_drew ?_ | refine blk_alloc ?_ _)); exact BK133.out⟩, ⟨by repeat (first | (with_reducible first | exact HB.out | apply below_alloc | apply pw_below_drewN | apply below_drew1 | refine below_set ?_ GE128.out | refine below_set ?_ GE129.out | refine below_set ?_ GE130.out | refine below_set ?_ GE132.out | refine below_set ?_ GE133.out) | exact HB.out)⟩⟩
    case round =>
     clear H'
     try clear c1
     try clear p2
     try clear q2
     try clear c6
     try clear p6
     try clear c16
     try clear c16b0
     try clear c17
     try clear c17b0
     try clear p20
     try clear q20
     try clear p2
     try clear p20
     try clear q20
     obtain ⟨x25_2, x133000_2, rfl, HA, HK2, BK128, BK129, BK130, BK132, BK133, HB⟩ := hrel
     cases gk with
     | zero => exact absurd HA.out (by simp [comp_Take.l1])
     | succ k2 =>
      have H := HA.out
      clear HA
      simp only [comp_Take.l1] at H
      by_cases c23 : x25_2 < 8
      ·rw [if_pos c23] at H
       have c23b0 : decide (x25_2 < 8) = true := decide_eq_true c23
       clear c23
       by_cases c24 : 0 ≤ x25_2
       ·rw [if_pos c24] at H
        have c24b0 : decide (0 ≤ x25_2) = true := decide_eq_true c24
        clear c24
        obtain ⟨y136, hy136⟩ : ∃ y_ : List Int, y_ = (Ar.set 8 x133000_2 x25_2 (((Ar.get 8 x133000_2 x25_2) + (Ar.get 8 a0 x25_2)) % 4294967296)) := ⟨_, rfl⟩
        replace H : (comp_Take.l1 k2 (wrap64 (x25_2 + 1)) a0 y136) = some r := by first | (rw [hy136]; with_reducible exact H) | (have H2_ := (Option.bind_some _ _).symm.trans H; rw [hy136]; with_reducible exact H2_) | (have H2_ := (Option.bind_some _ _).symm.trans H; with_reducible exact H2_) | with_reducible exact H | (rw [hy136]; exact H) | exact H
        have Ny136 := Aside0.mk hy136
        clear hy136
        have H' := Aside0.mk H
        clear H
        try go_wp2
        replace BK128 := Aside0.mk (blk_drew BK128.out)
        replace BK129 := Aside0.mk (blk_drew BK129.out)
        replace BK130 := Aside0.mk (blk_drew BK130.out)
        replace BK132 := Aside0.mk (blk_drew BK132.out)
        replace BK133 := Aside0.mk (blk_drew BK133.out)
        replace HB := Aside0.mk (below_drew1 HB.out)
        have p26 : (0 ≤ (x25_2 : Int)) = True := eq_true qo
        have q26 : ((x25_2 : Int) < 8) = True := eq_true qo
        have p27 : (0 ≤ (x25_2 : Int)) = True := eq_true qo
        have q27 : ((x25_2 : Int) < 8) = True := eq_true qo
        have p28 : (0 ≤ (x25_2 : Int)) = True := eq_true qo
        have q28 : ((x25_2 : Int) < 8) = True := eq_true qo
        refine start_ (n := 9) (S := fun w' => w'.cell? ⟨gb132, (x25_2 : Int).toNat, none⟩ = some (.int .u32 (Ar.get 8 x133000_2 x25_2)) ∧ w'.cell? ⟨gb128, (x25_2 : Int).toNat, none⟩ = some (.int .u32 (Ar.get 8 a0 x25_2))) (ds := [8]) #[false, false, false, false, false, false, false, false, false] (by kernel_rfl) rfl rfl ⟨(Ar.cell_run (j := x25_2) BK132.out qo qo), (Ar.cell_run (j := x25_2) BK128.out qo qo)⟩ (fun hHeld => ?_); refine with_tabW comp_Take.tab10 comp_Take.bits10 (fun HT_ HW_ => ?_)
        generalize wr.drew = w25 at BK128 BK129 BK130 BK132 BK133 HB hHeld ⊢
        refine pure_ (i := 0) (N := some 28) (v := ?_) (a' := ?_) #[true, false, false, false, false, false, false, false, false] rfl rfl (any_of HT_.out (by kernel_rfl)) (fun _ _ _ h => h) (Or.inl ⟨by rfl, ?_⟩) ?_ ?_
        rotate_left
        ·intro w'
         go_simp
         with_reducible rfl
        rotate_left
        ·simp only [Act.put, zA_, zB_, zC_, i64_w, i32_w]
         rfl
        refine pure_ (i := 1) (N := some 29) (v := ?_) (a' := ?_) #[true, true, false, false, false, false, false, false, false] rfl rfl (any_of HT_.out (by kernel_rfl)) (fun _ _ _ h => h) (Or.inl ⟨by rfl, ?_⟩) ?_ ?_
        rotate_left
        ·intro w'
         go_simp
         with_reducible rfl
        rotate_left
        ·simp only [Act.put, zA_, zB_, zC_, i64_w, i32_w]
         rfl
        refine pure_ (i := 3) (N := some 31) (v := ?_) (a' := ?_) #[true, true, false, true, false, false, false, false, false] rfl rfl (any_of HT_.out (by kernel_rfl)) (fun _ _ _ h => h) (Or.inl ⟨by rfl, ?_⟩) ?_ ?_
        rotate_left
        ·intro w'
         go_simp
         with_reducible rfl
        rotate_left
        ·simp only [Act.put, zA_, zB_, zC_, i64_w, i32_w]
         rfl
        refine pure_ (i := 4) (N := some 32) (v := ?_) (a' := ?_) #[true, true, false, true, true, false, false, false, false] rfl rfl (any_of HT_.out (by kernel_rfl)) (fun _ _ _ h => h) (Or.inl ⟨by rfl, ?_⟩) ?_ ?_
        rotate_left
        ·intro w'
         go_simp
         with_reducible rfl
        rotate_left
        ·simp only [Act.put, zA_, zB_, zC_, i64_w, i32_w]
         rfl
        refine take_ (i := 2) (N := some 30) (v := ?_) (a' := ?_) #[true, true, true, true, true, false, false, false, false] rfl rfl (take_ofW HT_.out HW_.out (by kernel_rfl)) (fun _ _ _ h => h) (Or.inl ⟨by rfl, ?_⟩) hHeld ?_ ?_
        rotate_left
        ·rintro w' ⟨s0, s1⟩
         go_simp
         with_reducible rfl
        rotate_left
        ·simp only [Act.put, zA_, zB_, zC_, i64_w, i32_w]
         rfl
        refine take_ (i := 5) (N := some 33) (v := ?_) (a' := ?_) #[true, true, true, true, true, true, false, false, false] rfl rfl (take_ofW HT_.out HW_.out (by kernel_rfl)) (fun _ _ _ h => h) (Or.inl ⟨by rfl, ?_⟩) hHeld ?_ ?_
        rotate_left
        ·rintro w' ⟨s0, s1⟩
         go_simp
         with_reducible rfl
        rotate_left
        ·simp only [Act.put, zA_, zB_, zC_, i64_w, i32_w]
         rfl
        refine pure_ (i := 6) (N := some 34) (v := ?_) (a' := ?_) #[true, true, true, true, true, true, true, false, false] rfl rfl (any_of HT_.out (by kernel_rfl)) (fun _ _ _ h => h) (Or.inl ⟨by rfl, ?_⟩) ?_ ?_
        rotate_left
        ·intro w'
         go_simp
         with_reducible rfl
        rotate_left
        ·simp only [Act.put, zA_, zB_, zC_, i64_w, i32_w]
         rfl
        refine pure_ (i := 7) (N := some 35) (v := ?_) (a' := ?_) #[true, true, true, true, true, true, true, true, false] rfl rfl (any_of HT_.out (by kernel_rfl)) (fun _ _ _ h => h) (Or.inl ⟨by rfl, ?_⟩) ?_ ?_
        rotate_left
        ·intro w'
         go_simp
         with_reducible rfl
        rotate_left
        ·simp only [Act.put, zA_, zB_, zC_, i64_w, i32_w]
         rfl
        refine last_ (i := 8) (N := none) #[true, true, true, true, true, true, true, true, true] rfl rfl (one_of HT_.out (by kernel_rfl)) (by decide) (fun K hK => ?_)
        refine Ar.put_step (by rfl) rfl rfl (by kernel_rfl) (g := gb132) (j := x25_2) rfl (z := (((Ar.get 8 x133000_2 x25_2) + (Ar.get 8 a0 x25_2)) % 4294967296)) qg (qb BK132) qo qo ?_; intro w29 hbk_ hg
        rw [← Ny136.out] at hbk_
        replace BK128 := Aside0.mk (qG BK128 hg (fun e_ => NB128_132.out (Option.some.inj e_)))
        replace BK129 := Aside0.mk (qG BK129 hg (fun e_ => NB129_132.out (Option.some.inj e_)))
        replace BK130 := Aside0.mk (qG BK130 hg (fun e_ => NB130_132.out (Option.some.inj e_)))
        replace BK133 := Aside0.mk (qG BK133 hg (fun e_ => NB133_132.out (Option.some.inj e_)))
        replace BK132 := Aside0.mk (hbk_)
        replace HB := Aside0.mk (Below.grown (qs HB) hg ((below_size (qs HB))) (fun _ e_ => by cases e_; exact GE132.out))
        clear hbk_ hg
        refine hK.out _ _ ?_
        clear hK K
        refine done_ (done_of HT_.out (by kernel_rfl)) ?_
        try go_wp2
        go_roundg k2
        case measure => have := HK1.out; have := HK2.out; omega
        case rel => exact ⟨(wrap64 (x25_2 + 1)), (y136), (by first | rfl | (simp; done) | (simp [*]; done)), H', ⟨by have := HK1.out; have := HK2.out; omega⟩, ⟨by (with_reducible repeat (first | refine blk_drewN ?_ _ | refine blk_drew ?_ | refine blk_alloc ?_ _)); exact BK128.out⟩, ⟨by (with_reducible repeat (first | refine blk_drewN ?_ _ | refine blk_drew ?_ | refine blk_alloc ?_ _)); exact BK129.out⟩, ⟨by (with_reducible repeat (first | refine blk_drewN ?_ _ | refine blk_drew ?_ | refine blk_alloc ?_ _)); exact BK130.out⟩, ⟨by (with_reducible repeat (first | refine blk_drewN ?_ _ | refine blk_drew ?_ | refine blk_alloc ?_ _)); exact BK132.out⟩, ⟨by (with_reducible repeat (first | refine blk_drewN ?_ _ | refine blk_drew ?_ | refine blk_alloc ?_ _)); exact BK133.out⟩, ⟨by repeat (first | (with_reducible first | exact HB.out | apply below_alloc | apply pw_below_drewN | apply below_drew1 | refine below_set ?_ GE128.out | refine below_set ?_ GE129.out | refine below_set ?_ GE130.out | refine below_set ?_ GE132.out | refine below_set ?_ GE133.out) | exact HB.out)⟩⟩
       ·rw [if_neg c24] at H
        exact absurd H (by simp)
      ·rw [if_neg c23] at H
       have c23b0 : decide (x25_2 < 8) = false := decide_eq_false c23
       clear c23
       obtain rfl := Option.some.inj H
       go_wp2_with (first | ((with_reducible refine gate_dst (N := 37) rfl ?_); (try (refine gate_guard (by rfl) ?_; dsimp only)); refine Ar.load_event rfl (D := 37) rfl (T := 33) rfl Tryd.underlying33 (by kernel_rfl) (g := gb132) rfl (qb BK132) ?_) | ((with_reducible refine gate_store (t := 33) (p := 4) rfl ?_); refine Ar.store_all_event rfl rfl rfl Tryd.underlying33 (by kernel_rfl) (g := gb130) rfl (z := x133000_2) qg (qb BK130) ?_; intro w30 hbk_ hg; replace BK128 := Aside0.mk (qG BK128 hg (fun e_ => NB128_130.out (Option.some.inj e_))); replace BK129 := Aside0.mk (qG BK129 hg (fun e_ => NB129_130.out (Option.some.inj e_))); replace BK132 := Aside0.mk (qG BK132 hg (fun e_ => NB132_130.out (Option.some.inj e_))); replace BK133 := Aside0.mk (qG BK133 hg (fun e_ => NB133_130.out (Option.some.inj e_))); replace BK130 := Aside0.mk (hbk_); replace HB := Aside0.mk (Below.grown (qs HB) hg ((below_size (qs HB))) (fun _ e_ => by cases e_; exact GE130.out)); clear hbk_ hg))
       refine bodyPost_ret (results_cell_row rfl _ _ gb130 33 (Ar.cells .u32 8 x133000_2) (0, 0) _ rfl (qb BK130) Tryd.underlying33 rfl qZ) rfl ?_
       exact ⟨by first | rfl | (simp [errW_none, errW_some] <;> rfl) | (simp [*, errW_none, errW_some] <;> rfl), by repeat (first | (with_reducible first | exact HB.out | apply below_alloc | apply pw_below_drewN | apply below_drew1 | refine below_set ?_ GE128.out | refine below_set ?_ GE129.out | refine below_set ?_ GE130.out | refine below_set ?_ GE132.out | refine below_set ?_ GE133.out) | exact HB.out)⟩
end Go.Proofs.YtkcdcbiobkcpmaaDoor.PA
end
section
namespace Go.Proofs.YtkcdcbiobkcpmaaDoor.PA
open Go.RowKit Go.Proofs.YtkcdcbiobkcpmaaDoorW.PrintWords Go.Proofs.YtkcdcbiobkcpmaaDoorW.PrintLast Go.Proofs.YtkcdcbiobkcpmaaDoorW.PrintMore
attribute [local go_sem] max2_int min2_int max_two min_two max_three min_three max_four min_four
set_option linter.unusedVariables false
set_option linter.unusedSimpArgs false
def sha_writer_take.blk (l : List (List Int)) (i : Int) : List Int := l.getD i.toNat (List.replicate 64 0)
theorem sha_writer_take.blk_at {w : World} {A : Option Addr} {n : Nat} {xs : List (List Int)} (h : Kd.C (Ar.K .u8 64) w A n xs) (i : Int) (h0 : 0 ≤ i) (h1 : i < n) : ∃ ad, A = some ad ∧ (∀ (j_ : Nat) (u_ : Value), (Ar.cells .u8 64 (sha_writer_take.blk xs i)).toList[j_]? = some u_ → w.cell? (ad.add (i.toNat * 64 + j_)) = some u_) := Ar.elem_all h i h0 h1
def sha_writer_take.l0 : Nat → List (List Int) → List Int → Int → Option (List Int)
  | 0, _, _, _ => none
  | k + 1, l, st, i => if i < (l.length : Int) then (if 0 ≤ i then (comp_Take.f k st (sha_writer_take.blk l i)).bind fun s => sha_writer_take.l0 k l s (wrap64 (i + 1)) else none) else some st
def sha_writer_take.f (k : Nat) (st b : List Int) : Option (List Int × List Int) := (pad_Cut.f k b).bind fun p => (sha_writer_take.l0 k p.1 st 0).bind fun s => some (s, p.2)
theorem sha_writer_take.mono_l : ∀ k l st i, LeO (sha_writer_take.l0 k l st i) (sha_writer_take.l0 (k + 1) l st i)
  | 0, _, _, _ => fun r h => by simp [sha_writer_take.l0] at h
  | k + 1, _, _, _ => by
    unfold sha_writer_take.l0
    exact LeO.ite (LeO.ite (LeO.bind (comp_Take.mono _ _ _) (fun _ => sha_writer_take.mono_l k _ _ _)) (LeO.none _)) (LeO.refl _)
theorem sha_writer_take.mono : ∀ a0 a1 k, LeO (sha_writer_take.f k a0 a1) (sha_writer_take.f (k + 1) a0 a1) := fun a0 a1 k => by
  unfold sha_writer_take.f
  exact LeO.bind (pad_Cut.mono _ _) (fun _ => LeO.bind (sha_writer_take.mono_l _ _ _ _) (fun _ => LeO.refl _))
set_option maxHeartbeats 8000000 in
set_option maxRecDepth 100000 in
theorem sha_writer_take.calls (k : Nat) (P0_ : Nat → Prop) (A0 : Option Addr) (c0 : Nat) (l0 : List Int) (g : Nat) (st : List Int) (v : Value) (n : Int) (r1 r2 : List Int) (w : World) (hs0 : Kd.V (Kd.int .u8) 5 w w.heap.size (fun k_ => P0_ k_) (.slice A0 l0.length c0) l0) (hb0 : w.heap[g]? = some (.cells (Ar.wC st v n) 61 (0, 0))) (hne : ∀ k_, P0_ k_ → k_ ≠ g) (h : sha_writer_take.f k st l0 = some (r1, r2)) :
    Calls Tryd.prog 33 #[.pointer (some ⟨g, 0, none⟩), .slice A0 l0.length c0] w fun e w' => ∃ v1_ : Value, e = .returned v1_ ∧ Kd.V (Kd.int .u8) 5 w' w.heap.size (fun k_ => P0_ k_ ∨ w.heap.size ≤ k_) v1_ r2 ∧ w'.heap[g]? = some (.cells (Ar.wC r1 v n) 61 (0, 0)) ∧ w.grownBy w' (some g) := by
  obtain ⟨⟨l, rest⟩, hA, h2⟩ := Option.bind_eq_some_iff.mp h
  obtain ⟨s, hl, h3⟩ := Option.bind_eq_some_iff.mp h2
  have h3 := Option.some.inj h3
  simp only [Prod.mk.injEq] at h3
  obtain ⟨rfl, rfl⟩ := h3
  have HA := Aside0.mk hA
  have HL := Aside0.mk hl
  have BG := Aside0.mk hb0
  have HS := Aside0.mk hs0
  have HG := Aside0.mk (Ar.grown_refl w g)
  have NEV := Aside0.mk (show ∀ k_, (P0_ k_ ∨ w.heap.size ≤ k_) → k_ ≠ g from fun k_ hk => by
    rcases hk with hk | hk
    · exact hne k_ hk
    · have := blk_lt hb0
      omega)
  clear h h2 hA hl hb0 hs0 hne
  go_enter Tryd.func33, Tryd.ntmps33
  go_wp2_with (first | ((with_reducible refine gate_callee (f := 48) rfl ?_); refine goesL_ (some 11) rfl rfl Tryd.func48 (by kernel_rfl) rfl #[.slice A0 l0.length c0] rfl (by (try simp only [List.map_toArray, List.map_cons, List.map_nil]); first | done | rfl) ?_; refine (pad_Cut.calls k P0_ A0 c0 l0 l rest _ HS.out HA.out).mono ?_; rintro e w2 ⟨v0, v1, rfl, ho, hv, hb⟩; refine ⟨_, rfl, ?_⟩; replace BG := Aside0.mk (blk_below BG.out hb); replace HG := Aside0.mk (Ar.grown_then HG.out (grown_of_below hb none) (fun _ e_ => by cases e_)); have HO := Aside0.mk (ho); have HV := Aside0.mk (Kd.V_mono hv (fun _ h_ => h_.1)); clear hb ho hv HS; obtain ⟨A1, c1, e1_⟩ := Kd.R_slice HO.out; subst e1_; obtain ⟨A2, c2, e2_⟩ := Kd.V_slice HV.out; subst e2_))
  go_loopg [16] k (fun kq v16 w' => ∃ (i : Int) (st1 : List Int), v16 = .int .i64 i ∧ Aside0 (sha_writer_take.l0 kq l st1 i = some s) ∧ Aside0 (kq ≤ k) ∧ Aside0 (w'.heap[g]? = some (.cells (Ar.wC st1 v n) 61 (0, 0))) ∧ Aside0 (Kd.R (Ar.K .u8 64) 78 w' w.heap.size (fun _ => True) (.slice A1 l.length c1) l) ∧ Aside0 (Kd.V (Kd.int .u8) 5 w' w.heap.size (fun k_ => P0_ k_ ∨ w.heap.size ≤ k_) (.slice A2 rest.length c2) rest) ∧ Aside0 (w.grownBy w' (some g)))
  case atStart => exact ⟨0, st, rfl, HL, ⟨Nat.le_refl _⟩, BG, HO, HV, HG⟩
  case round =>
    clear HL BG HO HV HG
    obtain ⟨i, st1, rfl, HL, HK1, BG, HO, HV, HG⟩ := hrel
    cases gk with
    | zero => exact absurd HL.out (by simp [sha_writer_take.l0])
    | succ k1 =>
      have H := HL.out
      clear HL
      simp only [sha_writer_take.l0] at H
      by_cases c : i < (l.length : Int)
      · rw [if_pos c] at H
        have cb0 : decide (i < (l.length : Int)) = true := decide_eq_true c
        by_cases d : 0 ≤ i
        · rw [if_pos d] at H
          obtain ⟨s1, hT, hR⟩ := Option.bind_eq_some_iff.mp H
          have AT := Aside0.mk hT
          have H' := Aside0.mk hR
          clear H hT hR
          obtain ⟨ad, eA, hx⟩ := sha_writer_take.blk_at (Kd.R_reads' HO.out).2.2 i d c
          cases eA
          have HX := Aside0.mk hx
          clear hx
          replace d := eq_true d
          replace c := eq_true c
          go_wp2_with (first | ((with_reducible refine gate_dst (N := 19) rfl ?_); refine Ar.gload_event rfl (T := 78) rfl Tryd.underlying78 rfl (D := Ar.cells .u8 64 (sha_writer_take.blk l i)) qz rfl (Ar.elem_part0 HX.out Ar.in_whole) ?_) | ((with_reducible refine gate_dst (N := 8) rfl ?_); refine box_event ?hg (N := 8) ?hd (cs := (Ar.cells .u8 64 (List.replicate 64 0))) (t := 78) ?hr ?_; (case hd => rfl); (case hg => rfl); (case hr => first | exact Ar.alloc_run rfl (by kernel_rfl) | (go_simp; done) | (go_simp; rfl)); intro gx hg w3 hbox hb; replace HO := Aside0.mk (Kd.R_mono (Kd.R_grown (Kd.R_bound HO.out) (grown_of_below hb none) (fun _ _ e_ => by cases e_)) (fun k_ h_ => (by rw [hg]; have h1_ := h_.2.2.1; exact Nat.ne_of_lt h1_ : k_ ≠ gx))); replace HV := Aside0.mk (Kd.V_mono (Kd.V_grown (Kd.V_bound HV.out) (grown_of_below hb none) (fun _ _ e_ => by cases e_)) (fun k_ h_ => (⟨h_.1, by rw [hg]; have h1_ := h_.2; exact Nat.ne_of_lt h1_⟩ : (P0_ k_ ∨ w.heap.size ≤ k_) ∧ k_ ≠ gx))); have BX := Aside0.mk (hbox); have GEgx := Aside0.mk ((by rw [hg]; have h1_ := HG.out.size; exact h1_ : w.heap.size ≤ gx)); replace HG := Aside0.mk (Ar.grown_then HG.out (grown_of_below hb none) (fun _ e_ => by cases e_)); have NGX := Aside0.mk ((by rw [hg]; exact Nat.ne_of_lt (blk_lt BG.out) : g ≠ gx)); replace BG := Aside0.mk (blk_below BG.out hb); clear hb hg hbox) | ((with_reducible refine gate_store (t := 78) (p := 8) rfl ?_); refine Ar.store_all_event rfl rfl rfl Tryd.underlying78 (by kernel_rfl) (g := gx) rfl (z := (sha_writer_take.blk l i)) qg BX.out ?_; intro w4 hbk_ hg; replace BG := Aside0.mk (blk_grown BG.out hg (fun e_ => NGX.out (Option.some.inj e_))); replace HG := Aside0.mk (Ar.grown_then HG.out hg (fun q_ e_ => .inr (by cases e_; exact GEgx.out))); replace HO := Aside0.mk (Kd.R_grown HO.out hg (fun k_ hk_ e_ => hk_ (Option.some.inj e_))); replace HV := Aside0.mk (Kd.V_mono (Kd.V_grown HV.out hg (fun k_ hk_ e_ => hk_.2 (Option.some.inj e_))) (fun _ h_ => h_.1)); replace BX := Aside0.mk (hbk_); clear hbk_ hg))
          replace BG := Aside0.mk (blk_drew BG.out)
          replace HG := Aside0.mk (Ar.grown_drew HG.out)
          replace HO := Aside0.mk (Kd.R_drew HO.out)
          replace HV := Aside0.mk (Kd.V_drew HV.out)
          replace BX := Aside0.mk (blk_drew BX.out)
          refine start_ (n := 12) (S := fun w' => w'.heap[g]? = some (.cells (Ar.wC st1 v n) 61 (0, 0)) ∧ w'.heap[gx]? = some (.cells (Ar.cells .u8 64 (sha_writer_take.blk l i)) 78 (0, 0))) (ds := [11]) #[false, false, false, false, false, false, false, false, false, false, false, false] (by kernel_rfl) rfl rfl ⟨BG.out, BX.out⟩ (fun hHeld => ?_)
          generalize w4.drew = w5 at BG HG HO HV BX hHeld ⊢
          refine pure_ (i := 0) (N := some 20) (v := ?_) (a' := ?_) #[true, false, false, false, false, false, false, false, false, false, false, false] rfl rfl (by kernel_rfl) (fun _ _ _ h => h) (Or.inl ⟨by rfl, ?_⟩) ?_ ?_
          rotate_left
          · intro w'
            go_simp
            with_reducible rfl
          rotate_left
          · simp only [Act.put, zA_, zB_, zC_, i64_w, i32_w]
            rfl
          refine pure_ (i := 1) (N := some 21) (v := ?_) (a' := ?_) #[true, true, false, false, false, false, false, false, false, false, false, false] rfl rfl (by kernel_rfl) (fun _ _ _ h => h) (Or.inl ⟨by rfl, ?_⟩) ?_ ?_
          rotate_left
          · intro w'
            go_simp
            with_reducible rfl
          rotate_left
          · simp only [Act.put, zA_, zB_, zC_, i64_w, i32_w]
            rfl
          refine pure_ (i := 2) (N := some 22) (v := ?_) (a' := ?_) #[true, true, true, false, false, false, false, false, false, false, false, false] rfl rfl (by kernel_rfl) (fun _ _ _ h => h) (Or.inl ⟨by rfl, ?_⟩) ?_ ?_
          rotate_left
          · intro w'
            go_simp
            with_reducible rfl
          rotate_left
          · simp only [Act.put, zA_, zB_, zC_, i64_w, i32_w]
            rfl
          refine pure_ (i := 3) (N := some 23) (v := ?_) (a' := ?_) #[true, true, true, true, false, false, false, false, false, false, false, false] rfl rfl (by kernel_rfl) (fun _ _ _ h => h) (Or.inl ⟨by rfl, ?_⟩) ?_ ?_
          rotate_left
          · intro w'
            go_simp
            with_reducible rfl
          rotate_left
          · simp only [Act.put, zA_, zB_, zC_, i64_w, i32_w]
            rfl
          refine pure_ (i := 4) (N := some 24) (v := ?_) (a' := ?_) #[true, true, true, true, true, false, false, false, false, false, false, false] rfl rfl (by kernel_rfl) (fun _ _ _ h => h) (Or.inl ⟨by rfl, ?_⟩) ?_ ?_
          rotate_left
          · intro w'
            go_simp
            with_reducible rfl
          rotate_left
          · simp only [Act.put, zA_, zB_, zC_, i64_w, i32_w]
            rfl
          refine take_ (i := 5) (N := some 25) (v := ?_) (a' := ?_) #[true, true, true, true, true, true, false, false, false, false, false, false] rfl rfl (by kernel_rfl) (fun _ _ _ h => h) (Or.inl ⟨by rfl, ?_⟩) hHeld ?_ ?_
          rotate_left
          · rintro w' ⟨s0, s1⟩
            refine (Ar.gload_run rfl Tryd.underlying33 rfl (D := Ar.cells .u32 8 st1) qz rfl (Ar.blk_part s0 Ar.in_first)).trans ?_; with_reducible rfl
          rotate_left
          · simp only [Act.put, zA_, zB_, zC_, i64_w, i32_w]
            rfl
          refine take_ (i := 6) (N := some 26) (v := ?_) (a' := ?_) #[true, true, true, true, true, true, true, false, false, false, false, false] rfl rfl (by kernel_rfl) (fun _ _ _ h => h) (Or.inl ⟨by rfl, ?_⟩) hHeld ?_ ?_
          rotate_left
          · rintro w' ⟨s0, s1⟩
            refine (Ar.load_run rfl Tryd.underlying78 (by kernel_rfl) rfl s1).trans ?_; with_reducible rfl
          rotate_left
          · simp only [Act.put, zA_, zB_, zC_, i64_w, i32_w]
            rfl
          refine one_ (i := 7) (N := some 27) #[true, true, true, true, true, true, true, true, false, false, false, false] rfl rfl (by kernel_rfl) (by decide) (fun K hK => ?_)
          refine goes_ Tryd.func49 (by kernel_rfl) rfl #[.agg (Ar.cells .u32 8 st1), .agg (Ar.cells .u8 64 (sha_writer_take.blk l i))] (by rfl) rfl rfl (by simp only [List.map_toArray, List.map_cons, List.map_nil]; rfl) ?_
          with_reducible refine (comp_Take.calls k1 st1 (sha_writer_take.blk l i) s1 _ AT.out).mono ?_
          rintro e w6 ⟨rfl, hb⟩
          refine ⟨_, rfl, ?_⟩
          replace BG := Aside0.mk (blk_below BG.out hb)
          replace HG := Aside0.mk (Ar.grown_then HG.out (grown_of_below hb none) (fun _ e_ => by cases e_))
          replace HO := Aside0.mk (Kd.R_grown HO.out (grown_of_below hb none) (fun _ _ e_ => by cases e_))
          replace HV := Aside0.mk (Kd.V_grown HV.out (grown_of_below hb none) (fun _ _ e_ => by cases e_))
          replace BX := Aside0.mk (blk_below BX.out hb)
          clear hb
          refine hK.out _ _ ⟨BG.out, BX.out⟩ (fun hHeld => ?_)
          clear hK K
          refine norm_ (a' := ?_) ?_ ?_
          rotate_left
          · show Act.put _ (some 27) _ = _
            simp only [Act.put, zA_, zB_, zC_, i64_w, i32_w]
            rfl
          refine pure_ (i := 8) (N := some 28) (v := ?_) (a' := ?_) #[true, true, true, true, true, true, true, true, true, false, false, false] rfl rfl (by kernel_rfl) (fun _ _ _ h => h) (Or.inl ⟨by rfl, ?_⟩) ?_ ?_
          rotate_left
          · intro w'
            go_simp
            with_reducible rfl
          rotate_left
          · simp only [Act.put, zA_, zB_, zC_, i64_w, i32_w]
            rfl
          refine pure_ (i := 9) (N := some 29) (v := ?_) (a' := ?_) #[true, true, true, true, true, true, true, true, true, true, false, false] rfl rfl (by kernel_rfl) (fun _ _ _ h => h) (Or.inl ⟨by rfl, ?_⟩) ?_ ?_
          rotate_left
          · intro w'
            go_simp
            with_reducible rfl
          rotate_left
          · simp only [Act.put, zA_, zB_, zC_, i64_w, i32_w]
            rfl
          refine pure_ (i := 10) (N := some 30) (v := ?_) (a' := ?_) #[true, true, true, true, true, true, true, true, true, true, true, false] rfl rfl (by kernel_rfl) (fun _ _ _ h => h) (Or.inl ⟨by rfl, ?_⟩) ?_ ?_
          rotate_left
          · intro w'
            go_simp
            with_reducible rfl
          rotate_left
          · simp only [Act.put, zA_, zB_, zC_, i64_w, i32_w]
            rfl
          refine last_ (i := 11) (N := none) #[true, true, true, true, true, true, true, true, true, true, true, true] rfl rfl (by kernel_rfl) (by decide) (fun K hK => ?_)
          refine Ar.pstore_step ?hw (T := 33) (p := 30) (x := .tmp 27) ?ho ?hN (D := Ar.cells .u32 8 s1) (Z := Ar.cells .u32 8 st1) (B := #[v, .int .u64 n]) (by rw [Ar.cells_size]; kernel_rfl) (g := g) ?hx ?hv BG.out (by rw [Ar.cells_size, Ar.cells_size]) (Ar.cells_one _ _ _) ?_
          (case hw => rfl)
          (case ho => rfl)
          (case hN => rfl)
          (case hx => rfl)
          (case hv => rfl)
          intro w7 hbk_ hg
          replace HG := Aside0.mk (Ar.grown_then HG.out hg (fun q_ e_ => .inl (Option.some.inj e_).symm))
          replace HO := Aside0.mk (Kd.R_mono (Kd.R_grown (Kd.R_types HO.out BG.out (by decide)) hg (fun k_ hk_ e_ => hk_.2 (Option.some.inj e_))) (fun _ h_ => h_.1))
          replace HV := Aside0.mk (Kd.V_grown HV.out hg (fun k_ hk_ e_ => NEV.out k_ hk_ (Option.some.inj e_)))
          replace BG := Aside0.mk (hbk_)
          clear hbk_ hg BX
          refine hK.out _ _ ?_
          clear hK K
          refine done_ (by kernel_rfl) ?_
          try go_wp2
          go_roundg k1
          case measure => have := HK1.out; omega
          case rel => exact ⟨_, s1, rfl, H', ⟨by have := HK1.out; omega⟩, BG, ⟨Kd.R_mono HO.out (fun _ _ => trivial)⟩, HV, HG⟩
        · rw [if_neg d] at H
          exact absurd H (by simp)
      · rw [if_neg c] at H
        have cb0 : decide (i < (l.length : Int)) = false := decide_eq_false c
        obtain rfl := Option.some.inj H
        clear H c
        go_wp2
        go_ret
        exact ⟨_, rfl, HV.out, BG.out, HG.out⟩
def bytes_Clone.f (l0 : List Int) : Option (List Int) := (some (([] : List Int) : List Int)).bind fun y137 => (if y137.length + l0.length < 140737488355328 then (some (y137 ++ l0)) else (none))
set_option maxHeartbeats 8000000 in
set_option maxRecDepth 100000 in
theorem bytes_Clone.calls (A0 : Option Addr) (c0 : Nat) (l0 : List Int) (r : List Int) (w : World) (hr0 : Kd.C (Kd.int .u8) w A0 l0.length l0) (hc0 : l0.length ≤ c0) (h : bytes_Clone.f l0 = some r) :
    Calls Tryd.prog 45 #[.slice A0 l0.length c0] w fun e w' => ∃ v0_ : Value, e = .returned (v0_) ∧ Kd.R (Kd.int .u8) 5 w' w.heap.size (fun _ => True) v0_ r ∧ Below w.heap.size w w' := by
  cases A0 with
  | none =>
    obtain rfl : l0 = [] := by
      rcases l0 with _ | ⟨x_, l_⟩
      · rfl
      · exact absurd hr0 (by intro z_; obtain ⟨ad_, e_, _⟩ := Kd.at_int z_ 0 (by decide) (by first | (simp; done) | (simp; omega)); cases e_)
    have hq_ : r = [] := by simpa [bytes_Clone.f] using h.symm
    subst hq_
    have hnil_ := fun (w_ : World) => Lib.run_eql_slice_nil (P := Tryd.prog) w_ 29 5 none 0 c0 0 0 Tryd.underlying29
    clear h hr0 hc0
    go_enter Tryd.func45, Tryd.ntmps45
    go_wp2
    go_ret
    exact ⟨_, rfl, Kd.R_nil _ _ _ _ _, by repeat (first | exact Below.refl _ _ | apply pw_below_drewN | apply below_drew1)⟩
  | some A0 =>
    have HR0 := Aside0.mk hr0
    have HC0 := Aside0.mk hc0
    clear hr0 hc0
    have HB := Aside0.mk (Below.refl w.heap.size w)
    have H : ((some (([] : List Int) : List Int)).bind fun y137 => (if y137.length + l0.length < 140737488355328 then (some (y137 ++ l0)) else (none))) = some r := h
    clear h
    obtain ⟨y137, hy137⟩ : ∃ y_ : List Int, y_ = (([] : List Int)) := ⟨_, rfl⟩
    replace H : (if y137.length + l0.length < 140737488355328 then (some (y137 ++ l0)) else (none)) = some r := by first | (rw [hy137]; with_reducible exact H) | (have H2_ := (Option.bind_some _ _).symm.trans H; rw [hy137]; with_reducible exact H2_) | (have H2_ := (Option.bind_some _ _).symm.trans H; with_reducible exact H2_) | with_reducible exact H | (rw [hy137]; exact H) | exact H
    have Ny137 := Aside0.mk hy137
    clear hy137
    by_cases c2 : y137.length + l0.length < 140737488355328
    · rw [if_pos c2] at H
      have LMc2 := Aside0.mk c2
      clear c2
      obtain ⟨y140, hy140⟩ : ∃ y_ : List Int, y_ = (y137 ++ l0) := ⟨_, rfl⟩
      replace H : (some y140) = some r := by first | (rw [hy140]; with_reducible exact H) | (have H2_ := (Option.bind_some _ _).symm.trans H; rw [hy140]; with_reducible exact H2_) | (have H2_ := (Option.bind_some _ _).symm.trans H; with_reducible exact H2_) | with_reducible exact H | (rw [hy140]; exact H) | exact H
      have Ny140 := Aside0.mk hy140
      clear hy140
      obtain rfl := Option.some.inj H
      have hnil_ := fun (w_ : World) => Lib.run_eql_slice_nil (P := Tryd.prog) w_ 29 5 (some A0) l0.length c0 0 0 Tryd.underlying29
      go_enter Tryd.func45, Tryd.ntmps45
      go_wp2_with (first | ((with_reducible refine gate_dst (N := 5) rfl ?_); refine Kd.R_lit (Kd.int .u8) _ 5 ?hg (N := 5) ?hd (xs := ([] : List Int)) (inner := []) (ok := fun _ => True) (okp := fun _ => True) ?hr ?hp (fun _ hk => hk) trivial (Below.refl _ _) (Nat.le_refl _) (by simp) ?_; (case hd => rfl); (case hg => rfl); (case hr => first | (go_simp; done) | (go_simp; rfl)); (case hp => exact (Reps.none _ _)); intro v138 w3 ho4 hb hg_ hnew_; clear hg_ hnew_; (first | rw [← Ny137.out] at ho4 | (simp only [Int.reduceToNat] at ho4; rw [← Ny137.out] at ho4)); have HO139 := Aside0.mk (Kd.R_lower ho4 (below_size (qs HB))); replace HB := Aside0.mk (below_step (qs HB) hb); clear hb ho4) | ((with_reducible refine gate_builtin (b := .append) (xs := #[.tmp 5, .tmp 6]) rfl ?_); at_builtin; refine Kd.R_append_rows (Kd.int .u8) (w0 := w) w.heap.size rfl (.tmp 5) (.tmp 6) 29 5 (.int .u8 0) 1 rfl Tryd.underlying29 info5 rfl (by decide) (by omega) v138 y137 l0 _ _ _ (fun _ => True) (fun _ => False) rfl rfl ?aO ?aR (fun _ _ h => h) (fun _ h => h.elim) ?aF ?aB ?aS ?aL ?_; (case aR => repeat (first | exact (Kd.C_below HR0.out HB.out) | (with_reducible refine Kd.C_alloc ?_ _) | (with_reducible refine Kd.C_drewN ?_ _) | (with_reducible refine Kd.C_drew ?_))); (case aB => exact (qs HB)); (case aF => exact (fun _ _ => trivial)); (case aO => exact (qr HO139)); (case aS => exact (below_size (qs HB))); (case aL => have := LMc2.out; omega); intro v141 w5 ho hb hg hat; rw [← Ny140.out] at ho; replace HB := Aside0.mk (hb); have HO142 := Aside0.mk (ho); clear HO139 ho hb hg hat))
      go_ret
      exact ⟨_, by first | rfl | (simp [errW_none, errW_some] <;> rfl) | (simp [*, errW_none, errW_some] <;> rfl), by (with_reducible repeat (first | apply Kd.R_alloc | apply Kd.R_drewN | apply Kd.R_drew)); exact HO142.out, by repeat (first | (with_reducible first | exact HB.out | apply below_alloc | apply pw_below_drewN | apply below_drew1) | exact HB.out)⟩
    · rw [if_neg c2] at H
      exact absurd H (by simp)
def sha_writer_write.f (k : Nat) (st rest : List Int) (n : Int) (b : List Int) : Option (List Int × List Int × Int) := (bytes_Clone.f rest).bind fun c => if c.length + b.length < 140737488355328 then (sha_writer_take.f k st (c ++ b)).bind fun p => some (p.1, p.2, IntKind.u64.wrap (n + IntKind.u64.wrap (b.length : Int))) else none
theorem sha_writer_write.mono : ∀ a0 a1 a2 a3 k, LeO (sha_writer_write.f k a0 a1 a2 a3) (sha_writer_write.f (k + 1) a0 a1 a2 a3) := fun a0 a1 a2 a3 k => by
  unfold sha_writer_write.f
  exact LeO.bind (LeO.refl _) (fun _ => LeO.ite (LeO.bind (sha_writer_take.mono _ _ _) (fun _ => LeO.refl _)) (LeO.none _))
set_option maxHeartbeats 8000000 in
set_option maxRecDepth 100000 in
theorem sha_writer_write.calls (k : Nat) (P0_ : Nat → Prop) (A0 : Option Addr) (c0 : Nat) (l0 : List Int) (g : Nat) (st : List Int) (AR : Option Addr) (cR : Nat) (rest : List Int) (n : Int) (r1 r2 : List Int) (r3 : Int) (w : World) (hs0 : Kd.V (Kd.int .u8) 5 w w.heap.size (fun k_ => P0_ k_) (.slice A0 l0.length c0) l0) (hsR : Kd.V (Kd.int .u8) 5 w w.heap.size (fun k_ => P0_ k_) (.slice AR rest.length cR) rest) (hb0 : w.heap[g]? = some (.cells (Ar.wC st (.slice AR rest.length cR) n) 61 (0, 0))) (hne : ∀ k_, P0_ k_ → k_ ≠ g) (h : sha_writer_write.f k st rest n l0 = some (r1, r2, r3)) :
    Calls Tryd.prog 31 #[.pointer (some ⟨g, 0, none⟩), .slice A0 l0.length c0] w fun e w' => ∃ (A1 : Option Addr) (c1 : Nat), e = .returned (.tuple #[]) ∧ Kd.V (Kd.int .u8) 5 w' w.heap.size (fun k_ => w.heap.size ≤ k_) (.slice A1 r2.length c1) r2 ∧ w'.heap[g]? = some (.cells (Ar.wC r1 (.slice A1 r2.length c1) r3) 61 (0, 0)) ∧ w.grownBy w' (some g) := by
  obtain ⟨c, hA, h2⟩ := Option.bind_eq_some_iff.mp h
  by_cases hlen : c.length + l0.length < 140737488355328
  · rw [if_pos hlen] at h2
    obtain ⟨⟨s, rs⟩, hT, h3⟩ := Option.bind_eq_some_iff.mp h2
    have h3 := Option.some.inj h3
    simp only [Prod.mk.injEq] at h3
    obtain ⟨rfl, rfl, rfl⟩ := h3
    have HA := Aside0.mk hA
    have HT := Aside0.mk hT
    have HLN := Aside0.mk hlen
    have BG := Aside0.mk hb0
    have GLT := Aside0.mk (blk_lt hb0)
    have HS := Aside0.mk hs0
    have HR := Aside0.mk hsR
    have HG := Aside0.mk (Ar.grown_refl w g)
    have NE := Aside0.mk hne
    clear h h2 hA hT hb0 hs0 hsR hne hlen
    go_enter Tryd.func31, Tryd.ntmps31
    go_wp2_with (first | ((with_reducible refine gate_dst (N := 8) rfl ?_); refine Ar.cload_event rfl (T := 34) rfl Tryd.underlying34 rfl (A := ⟨g, 9, none⟩) rfl (v := .int .u64 n) (Ar.blk_at BG.out (Ar.wC_9 _ _ _)) ?_) | ((with_reducible refine gate_store (t := 34) (p := 15) rfl ?_); refine Ar.cstore_event rfl rfl rfl (k := .u64) (by kernel_rfl) (g := g) (c := 9) rfl (z := IntKind.u64.wrap (n + IntKind.u64.wrap (l0.length : Int))) qg BG.out (z0 := n) (Ar.wC_9 _ _ _) ?_; intro w1 hbk_ hg; rw [Ar.wC_set9] at hbk_; replace HG := Aside0.mk (Ar.grown_then HG.out hg (fun q_ e_ => .inl (Option.some.inj e_).symm)); replace HS := Aside0.mk (Kd.V_grown HS.out hg (fun k_ hk_ e_ => NE.out k_ hk_ (Option.some.inj e_))); replace HR := Aside0.mk (Kd.V_grown HR.out hg (fun k_ hk_ e_ => NE.out k_ hk_ (Option.some.inj e_))); replace BG := Aside0.mk (hbk_); clear hbk_ hg) | ((with_reducible refine gate_dst (N := 22) rfl ?_); refine Ar.cload_event rfl (T := 29) rfl Tryd.underlying29 rfl (A := ⟨g, 8, none⟩) rfl (v := .slice AR rest.length cR) (Ar.blk_at BG.out (Ar.wC_8 _ _ _)) ?_) | ((with_reducible refine gate_callee (f := 45) rfl ?_); refine goesL_ (some 23) rfl rfl Tryd.func45 (by kernel_rfl) rfl #[.slice AR rest.length cR] rfl (by (try simp only [List.map_toArray, List.map_cons, List.map_nil]); first | done | rfl) ?_; refine (bytes_Clone.calls AR cR rest c _ (Kd.V_reads' HR.out).2.2 (Kd.V_reads' HR.out).2.1 HA.out).mono ?_; rintro e w2 ⟨vc, rfl, ho, hb⟩; refine ⟨_, rfl, ?_⟩; replace BG := Aside0.mk (blk_below BG.out hb); replace HS := Aside0.mk (Kd.V_grown HS.out (grown_of_below hb none) (fun _ _ e_ => by cases e_)); have HO := Aside0.mk (ho); have HB := Aside0.mk (hb); have SZ1 := Aside0.mk ((HG.out.size : w.heap.size ≤ w1.heap.size)); replace HG := Aside0.mk (Ar.grown_then HG.out (grown_of_below hb none) (fun _ e_ => by cases e_)); clear hb ho HR) | ((with_reducible refine gate_builtin (b := .append) (xs := #[.tmp 23, .tmp 24]) rfl ?_); at_builtin; refine Kd.R_append_rows (Kd.int .u8) (w0 := w1) w1.heap.size rfl (.tmp 23) (.tmp 24) 29 5 (.int .u8 0) 1 rfl Tryd.underlying29 info5 rfl (by decide) (by omega) vc c l0 _ _ _ (fun _ => True) (fun _ => False) rfl rfl HO.out (Kd.V_reads' HS.out).2.2 (fun _ _ h => h) (fun _ h => h.elim) (fun _ _ => trivial) HB.out HB.out.size (by have := HLN.out; omega) ?_; intro va w3 ho hb hg hat; replace BG := Aside0.mk ((by have hn_ : some g ≠ vc.ownBlock := fun e_ => (by have h1_ := Kd.R_base HO.out g e_.symm; have h2_ := GLT.out; have h3_ := SZ1.out; omega); exact blk_grown BG.out hg hn_)); replace HG := Aside0.mk (Ar.grown_then HG.out hg (fun q_ e_ => .inr (by have h1_ := Kd.R_base HO.out q_ e_; have h3_ := SZ1.out; omega))); replace HO := Aside0.mk (ho); clear hb ho hg hat HB HS; obtain ⟨A3, c3, e3_⟩ := Kd.R_slice HO.out; subst e3_; have HV := Aside0.mk (show Kd.V (Kd.int .u8) 5 w3 w3.heap.size (fun k_ => w.heap.size ≤ k_) (.slice A3 (c ++ l0).length c3) (c ++ l0) from Kd.V_mono (Kd.R_V (Kd.R_bound HO.out)) (fun k_ h_ => Nat.le_trans SZ1.out h_.2.1)); clear HO) | ((with_reducible refine gate_callee (f := 33) rfl ?_); refine goesL_ (some 26) rfl rfl Tryd.func33 (by kernel_rfl) rfl #[.pointer (some ⟨g, 0, none⟩), .slice A3 (c ++ l0).length c3] rfl (by (try simp only [List.map_toArray, List.map_cons, List.map_nil]); first | done | rfl) ?_; refine (sha_writer_take.calls k (fun k_ => w.heap.size ≤ k_) A3 c3 (c ++ l0) g st (.slice AR rest.length cR) _ s rs _ HV.out BG.out (fun k_ hk_ => (by have h1_ := GLT.out; omega)) HT.out).mono ?_; rintro e w4 ⟨v4, rfl, hv, hbk_, hg⟩; refine ⟨_, rfl, ?_⟩; replace BG := Aside0.mk (hbk_); replace HV := Aside0.mk ((Kd.V_mono hv (fun k_ h_ => h_.elim id (fun h1_ => Nat.le_trans HG.out.size h1_)) : Kd.V (Kd.int .u8) 5 w4 w.heap.size (fun k_ => w.heap.size ≤ k_) v4 rs)); replace HG := Aside0.mk (Ar.grown_then HG.out hg (fun q_ e_ => .inl (Option.some.inj e_).symm)); clear hv hbk_ hg; obtain ⟨A4, c4, e4_⟩ := Kd.V_slice HV.out; subst e4_) | ((with_reducible refine gate_store (t := 29) (p := 29) rfl ?_); refine Ar.vstore_event rfl rfl rfl (by kernel_rfl) (g := g) (c := 8) rfl (u := .slice A4 rs.length c4) rfl rfl rfl BG.out (by rw [Ar.wC_size]; decide) ?_; intro w5 hbk_ hg; rw [Ar.wC_set8] at hbk_; replace HG := Aside0.mk (Ar.grown_then HG.out hg (fun q_ e_ => .inl (Option.some.inj e_).symm)); replace HV := Aside0.mk (Kd.V_grown HV.out hg (fun k_ hk_ e_ => (by have h1_ := GLT.out; have h2_ := Option.some.inj e_; omega))); replace BG := Aside0.mk (hbk_); clear hbk_ hg))
    first | go_end0 | ((try simp only [Exit.inBlock, Exit.then]); refine bodyPost_ret (results_none rfl _ _ _) rfl ?_)
    exact ⟨rfl, _, _, HV.out, BG.out, HG.out⟩
  · rw [if_neg hlen] at h2
    exact absurd h2 (by simp)
def sha_Write.row (l : List (List Int)) (i : Int) : List Int := l.getD i.toNat []
theorem sha_Write.row_at {w : World} {A : Option Addr} {n : Nat} {xs : List (List Int)} (h : Kd.C (Kd.slice 5 (Kd.int .u8)) w A n xs) (i : Int) (h0 : 0 ≤ i) (h1 : i < n) :
    ∃ ad A0 c0, A = some ad ∧ w.cell? (ad.add i.toNat) = some (.slice A0 (sha_Write.row xs i).length c0) ∧ (sha_Write.row xs i).length ≤ c0 ∧ (Kd.int .u8).C w A0 (sha_Write.row xs i).length (sha_Write.row xs i) := Ar.rows_at h i h0 h1
def sha_Write.l0 : Nat → List Int → List Int → Int → List (List Int) → Int → Option (List Int × List Int × Int × Int)
  | 0, _, _, _, _, _ => none
  | k + 1, st, rest, n, l, i => if i < (l.length : Int) then (if 0 ≤ i then (sha_writer_write.f k st rest n (sha_Write.row l i)).bind fun p => if p.2.2 ≥ 2305843009213693952 then some (List.replicate 8 0, [], 0, 11) else sha_Write.l0 k p.1 p.2.1 p.2.2 l (wrap64 (i + 1)) else none) else some (st, rest, n, 0)
def sha_Write.f (k : Nat) (a0_0 l0_1 : List Int) (a0_2 : Int) (l1 : List (List Int)) : Option (List Int × List Int × Int × Int) := (sha_Right.f a0_0 l0_1 a0_2).bind fun ok => if ok = true then sha_Write.l0 k a0_0 l0_1 a0_2 l1 0 else some (List.replicate 8 0, [], 0, 1)
theorem sha_Write.mono_l : ∀ k st rest n l i, LeO (sha_Write.l0 k st rest n l i) (sha_Write.l0 (k + 1) st rest n l i)
  | 0, _, _, _, _, _ => fun r h => by simp [sha_Write.l0] at h
  | k + 1, _, _, _, _, _ => by
    unfold sha_Write.l0
    exact LeO.ite (LeO.ite (LeO.bind (sha_writer_write.mono _ _ _ _ _) (fun _ => LeO.ite (LeO.refl _) (sha_Write.mono_l k _ _ _ _ _))) (LeO.none _)) (LeO.refl _)
theorem sha_Write.mono : ∀ a0 a1 a2 a3 k, LeO (sha_Write.f k a0 a1 a2 a3) (sha_Write.f (k + 1) a0 a1 a2 a3) := fun a0 a1 a2 a3 k => by
  unfold sha_Write.f
  exact LeO.bind (LeO.refl _) (fun _ => LeO.ite (sha_Write.mono_l _ _ _ _ _ _) (LeO.refl _))
set_option maxHeartbeats 8000000 in
set_option maxRecDepth 100000 in
theorem sha_Write.calls (k : Nat) (a0_0 : List Int) (P0_1_ : Nat → Prop) (A0_1 : Option Addr) (c0_1 : Nat) (l0_1 : List Int) (a0_2 : Int) (A1 : Option Addr) (c1 : Nat) (l1 : List (List Int)) (r1 : List Int) (r2 : List Int) (r3 : Int) (r4 : Int) (w : World) (hs0_1 : Kd.V (Kd.int .u8) 5 w w.heap.size (fun k_ => P0_1_ k_) (.slice A0_1 l0_1.length c0_1) l0_1) (hr1 : Kd.C (Kd.slice 5 (Kd.int .u8)) w A1 l1.length l1) (hc1 : l1.length ≤ c1) (h : sha_Write.f k a0_0 l0_1 a0_2 l1 = some (r1, r2, r3, r4)) :
    Calls Tryd.prog 12 #[.agg (Ar.cells .u32 8 a0_0 ++ #[.slice A0_1 l0_1.length c0_1, .int .u64 a0_2]), .slice A1 l1.length c1] w fun e w' => ∃ v1_ : Value, e = .returned (.tuple #[.agg (Ar.cells .u32 8 r1 ++ #[v1_, .int .u64 r3]), .int .i64 r4]) ∧ Kd.V (Kd.int .u8) 5 w' w.heap.size (fun k_ => (P0_1_ k_ ∨ w.heap.size ≤ k_)) v1_ r2 ∧ Below w.heap.size w w' := by
  obtain ⟨ok, hA, h2⟩ := Option.bind_eq_some_iff.mp h
  have HA := Aside0.mk hA
  have HS := Aside0.mk (Kd.V_bound hs0_1)
  have HP := Aside0.mk hr1
  have HB := Aside0.mk (Below.refl w.heap.size w)
  clear h hA hs0_1 hr1
  cases ok with
  | false =>
    rw [if_neg (by simp)] at h2
    have h2 := Option.some.inj h2
    simp only [Prod.mk.injEq] at h2
    obtain ⟨rfl, rfl, rfl, rfl⟩ := h2
    go_enter Tryd.func12, Tryd.ntmps12
    go_wp2_with (first | ((with_reducible refine gate_dst (N := 2) rfl ?_); refine qH (N := 2) (cs := (Ar.cells .u32 8 a0_0 ++ #[.slice A0_1 l0_1.length c0_1, .int .u64 a0_2])) (t := 36) ?_; intro g2 hg w1 hbox hb; replace HS := Aside0.mk (Kd.V_grown HS.out (grown_of_below hb none) (fun _ _ e_ => by cases e_)); have B2 := Aside0.mk (hbox); have GEg2 := Aside0.mk ((by rw [hg]; exact below_size HB.out : w.heap.size ≤ g2)); replace HB := Aside0.mk (below_step HB.out hb); clear hb hg hbox) | ((with_reducible refine gate_dst (N := 4) rfl ?_); refine box_event ?hg (N := 4) ?hd (cs := (Ar.cells .u32 8 (List.replicate 8 0) ++ #[.slice none 0 0, .int .u64 0])) (t := 36) ?hr ?_; (case hd => rfl); (case hg => rfl); (case hr => exact Ar.galloc_run rfl (by kernel_rfl)); intro g4 hg w2 hbox hb; replace HS := Aside0.mk (Kd.V_grown HS.out (grown_of_below hb none) (fun _ _ e_ => by cases e_)); replace B2 := Aside0.mk (blk_below B2.out hb); have B4 := Aside0.mk (hbox); have GEg4 := Aside0.mk ((by rw [hg]; exact below_size HB.out : w.heap.size ≤ g4)); replace HB := Aside0.mk (below_step HB.out hb); clear hb hg hbox) | ((with_reducible refine gate_dst (N := 9) rfl ?_); refine Ar.gload_event rfl (T := 36) rfl Tryd.underlying36 rfl (D := (Ar.cells .u32 8 a0_0 ++ #[.slice A0_1 l0_1.length c0_1, .int .u64 a0_2])) (by simp only [Array.size_append, Ar.cells_size, List.size_toArray, List.length_cons, List.length_nil]; kernel_rfl) (A := ⟨g2, 0, none⟩) rfl (Ar.blk_part B2.out Ar.in_whole) ?_) | ((with_reducible refine gate_callee (f := 17) rfl ?_); refine goesL_ (some 10) rfl rfl Tryd.func17 (by kernel_rfl) rfl #[.agg (Ar.cells .u32 8 a0_0 ++ #[.slice A0_1 l0_1.length c0_1, .int .u64 a0_2])] rfl (by (try simp only [List.map_toArray, List.map_cons, List.map_nil]); first | done | rfl) ?_; refine (sha_Right.calls a0_0 A0_1 c0_1 l0_1 a0_2 false _ (Kd.V_reads' HS.out).2.2 (Kd.V_reads' HS.out).2.1 HA.out).mono ?_; rintro e w3 ⟨rfl, hb⟩; refine ⟨_, rfl, ?_⟩; replace HS := Aside0.mk (Kd.V_grown HS.out (grown_of_below hb none) (fun _ _ e_ => by cases e_)); replace B2 := Aside0.mk (blk_below B2.out hb); replace B4 := Aside0.mk (blk_below B4.out hb); replace HB := Aside0.mk (below_step HB.out hb); clear hb) | ((with_reducible refine gate_dst (N := 12) rfl ?_); refine Ar.gbuild_event rfl (T := 36) rfl (D := (Ar.cells .u32 8 (List.replicate 8 0) ++ #[.slice none 0 0, .int .u64 0])) (by simp only [List.map_toArray, List.map_cons, List.map_nil]; exact fatBuild36_ _) ?_) | ((with_reducible refine gate_store (t := 36) (p := 4) rfl ?_); refine Ar.gstore_event rfl rfl rfl (D := (Ar.cells .u32 8 (List.replicate 8 0) ++ #[.slice none 0 0, .int .u64 0])) (by simp only [Array.size_append, Ar.cells_size, List.size_toArray, List.length_cons, List.length_nil]; kernel_rfl) (g := g4) rfl qg B4.out (by simp [Ar.cells_size]) (by repeat (first | (with_reducible refine Ar.all_app ?_ ?_) | (with_reducible exact Ar.cells_one _ _ _) | (focus (simp [Value.oneCell']; done)) | rfl)) ?_; intro w5 hbk_ hg; replace HB := Aside0.mk (Below.grown HB.out hg (below_size HB.out) (fun _ e_ => by cases e_; exact GEg4.out)); replace B4 := Aside0.mk (hbk_); clear hbk_ hg))
    refine bodyPost_ret (results_ct rfl _ _ g4 36 (Ar.cells .u32 8 (List.replicate 8 0) ++ #[.slice none 0 0, .int .u64 0]) (0, 0) _ rfl B4.out Tryd.underlying36 rfl (by simp only [Array.size_append, Ar.cells_size, List.size_toArray, List.length_cons, List.length_nil]; kernel_rfl)) rfl ?_
    exact ⟨_, rfl, Kd.V_nil _ _ _ _ _, HB.out⟩
  | true =>
    rw [if_pos rfl] at h2
    have H' := Aside0.mk h2
    clear h2
    go_enter Tryd.func12, Tryd.ntmps12
    go_wp2_with (first | ((with_reducible refine gate_dst (N := 2) rfl ?_); refine qH (N := 2) (cs := (Ar.cells .u32 8 a0_0 ++ #[.slice A0_1 l0_1.length c0_1, .int .u64 a0_2])) (t := 36) ?_; intro g2 hg w1 hbox hb; replace HS := Aside0.mk (Kd.V_grown HS.out (grown_of_below hb none) (fun _ _ e_ => by cases e_)); have B2 := Aside0.mk (hbox); have GEg2 := Aside0.mk ((by rw [hg]; exact below_size HB.out : w.heap.size ≤ g2)); replace HB := Aside0.mk (below_step HB.out hb); clear hb hg hbox) | ((with_reducible refine gate_dst (N := 4) rfl ?_); refine box_event ?hg (N := 4) ?hd (cs := (Ar.cells .u32 8 (List.replicate 8 0) ++ #[.slice none 0 0, .int .u64 0])) (t := 36) ?hr ?_; (case hd => rfl); (case hg => rfl); (case hr => exact Ar.galloc_run rfl (by kernel_rfl)); intro g4 hg w2 hbox hb; replace HS := Aside0.mk (Kd.V_grown HS.out (grown_of_below hb none) (fun _ _ e_ => by cases e_)); replace B2 := Aside0.mk (blk_below B2.out hb); have B4 := Aside0.mk (hbox); have GEg4 := Aside0.mk ((by rw [hg]; exact below_size HB.out : w.heap.size ≤ g4)); replace HB := Aside0.mk (below_step HB.out hb); clear hb hg hbox) | ((with_reducible refine gate_dst (N := 9) rfl ?_); refine Ar.gload_event rfl (T := 36) rfl Tryd.underlying36 rfl (D := (Ar.cells .u32 8 a0_0 ++ #[.slice A0_1 l0_1.length c0_1, .int .u64 a0_2])) (by simp only [Array.size_append, Ar.cells_size, List.size_toArray, List.length_cons, List.length_nil]; kernel_rfl) (A := ⟨g2, 0, none⟩) rfl (Ar.blk_part B2.out Ar.in_whole) ?_) | ((with_reducible refine gate_callee (f := 17) rfl ?_); refine goesL_ (some 10) rfl rfl Tryd.func17 (by kernel_rfl) rfl #[.agg (Ar.cells .u32 8 a0_0 ++ #[.slice A0_1 l0_1.length c0_1, .int .u64 a0_2])] rfl (by (try simp only [List.map_toArray, List.map_cons, List.map_nil]); first | done | rfl) ?_; refine (sha_Right.calls a0_0 A0_1 c0_1 l0_1 a0_2 true _ (Kd.V_reads' HS.out).2.2 (Kd.V_reads' HS.out).2.1 HA.out).mono ?_; rintro e w3 ⟨rfl, hb⟩; refine ⟨_, rfl, ?_⟩; replace HS := Aside0.mk (Kd.V_grown HS.out (grown_of_below hb none) (fun _ _ e_ => by cases e_)); replace B2 := Aside0.mk (blk_below B2.out hb); replace B4 := Aside0.mk (blk_below B4.out hb); replace HB := Aside0.mk (below_step HB.out hb); clear hb) | ((with_reducible refine gate_dst (N := 13) rfl ?_); refine Ar.gload_event rfl (T := 36) rfl Tryd.underlying36 rfl (D := (Ar.cells .u32 8 a0_0 ++ #[.slice A0_1 l0_1.length c0_1, .int .u64 a0_2])) (by simp only [Array.size_append, Ar.cells_size, List.size_toArray, List.length_cons, List.length_nil]; kernel_rfl) (A := ⟨g2, 0, none⟩) rfl (Ar.blk_part B2.out Ar.in_whole) ?_) | ((with_reducible refine gate_dst (N := 14) rfl ?_); refine Ar.gbuild_event rfl (T := 61) rfl (D := (Ar.cells .u32 8 a0_0 ++ #[.slice A0_1 l0_1.length c0_1, .int .u64 a0_2])) (by simp only [List.map_toArray, List.map_cons, List.map_nil]; exact fatBuild61_0 _ (by simp [Ar.cells_size])) ?_) | ((with_reducible refine gate_dst (N := 6) rfl ?_); refine box_event ?hg (N := 6) ?hd (cs := (Ar.wC (List.replicate 8 0) (.slice none 0 0) 0)) (t := 61) ?hr ?_; (case hd => rfl); (case hg => rfl); (case hr => exact Ar.galloc_run rfl (by kernel_rfl)); intro gx hg w4 hbox hb; have HV := Aside0.mk ((Kd.V_mono (Kd.V_grown (Kd.V_bound HS.out) (grown_of_below hb none) (fun _ _ e_ => by cases e_)) (fun k_ h_ => (⟨.inl h_.1.1, by rw [hg]; exact Nat.ne_of_lt h_.2, Nat.ne_of_lt (Nat.lt_of_lt_of_le h_.1.2 GEg4.out)⟩ : (P0_1_ k_ ∨ w.heap.size ≤ k_) ∧ k_ ≠ gx ∧ k_ ≠ g4)) : Kd.V (Kd.int .u8) 5 w4 w.heap.size (fun k_ => (P0_1_ k_ ∨ w.heap.size ≤ k_) ∧ k_ ≠ gx ∧ k_ ≠ g4) (.slice A0_1 l0_1.length c0_1) l0_1)); have N4X := Aside0.mk ((by rw [hg]; exact Nat.ne_of_lt (blk_lt B4.out) : g4 ≠ gx)); replace B4 := Aside0.mk (blk_below B4.out hb); have GEgx := Aside0.mk ((by rw [hg]; exact below_size HB.out : w.heap.size ≤ gx)); replace HB := Aside0.mk (below_step HB.out hb); have BX := Aside0.mk (hbox); clear hb hg hbox HS B2) | ((with_reducible refine gate_store (t := 61) (p := 6) rfl ?_); refine Ar.gstore_event rfl rfl rfl (D := (Ar.wC a0_0 (.slice A0_1 l0_1.length c0_1) a0_2)) (by simp only [Array.size_append, Ar.cells_size, List.size_toArray, List.length_cons, List.length_nil]; kernel_rfl) (g := gx) rfl qg BX.out (by simp [Ar.cells_size]) (by repeat (first | (with_reducible refine Ar.all_app ?_ ?_) | (with_reducible exact Ar.cells_one _ _ _) | (focus (simp [Value.oneCell']; done)) | rfl)) ?_; intro w5 hbk_ hg; replace B4 := Aside0.mk (blk_grown B4.out hg (fun e_ => N4X.out (Option.some.inj e_))); replace HV := Aside0.mk (Kd.V_grown HV.out hg (fun k_ hk_ e_ => hk_.2.1 (Option.some.inj e_))); replace HB := Aside0.mk (Below.grown HB.out hg (below_size HB.out) (fun _ e_ => by cases e_; exact GEgx.out)); replace BX := Aside0.mk (hbk_); clear hbk_ hg))
    go_loopg [17] k (fun kq v17 w' => ∃ (i : Int) (st rest : List Int) (n : Int) (AR : Option Addr) (cR : Nat), v17 = .int .i64 i ∧ Aside0 (sha_Write.l0 kq st rest n l1 i = some (r1, r2, r3, r4)) ∧ Aside0 (kq ≤ k) ∧ Aside0 (w'.heap[g4]? = some (.cells (Ar.cells .u32 8 (List.replicate 8 0) ++ #[.slice none 0 0, .int .u64 0]) 36 (0, 0))) ∧ Aside0 (w'.heap[gx]? = some (.cells (Ar.wC st (.slice AR rest.length cR) n) 61 (0, 0))) ∧ Aside0 (Kd.V (Kd.int .u8) 5 w' w.heap.size (fun k_ => (P0_1_ k_ ∨ w.heap.size ≤ k_) ∧ k_ ≠ gx ∧ k_ ≠ g4) (.slice AR rest.length cR) rest) ∧ Aside0 (Below w.heap.size w w'))
    case atStart => exact ⟨0, a0_0, l0_1, a0_2, A0_1, c0_1, rfl, H', ⟨Nat.le_refl _⟩, B4, BX, HV, HB⟩
    case round =>
      clear H' B4 BX HV HB
      obtain ⟨i, st, rest, n, AR, cR, rfl, HL, HK1, B4, BX, HV, HB⟩ := hrel
      cases gk with
      | zero => exact absurd HL.out (by simp [sha_Write.l0])
      | succ k1 =>
        have H := HL.out
        clear HL
        simp only [sha_Write.l0] at H
        by_cases c : i < (l1.length : Int)
        · rw [if_pos c] at H
          have cb0 : decide (i < (l1.length : Int)) = true := decide_eq_true c
          by_cases d : 0 ≤ i
          · rw [if_pos d] at H
            obtain ⟨⟨s1, s2, s3⟩, hT, hR⟩ := Option.bind_eq_some_iff.mp H
            have AT := Aside0.mk hT
            clear H hT
            obtain ⟨ad, A0, c0, eA, hx, hl0, hC0⟩ := sha_Write.row_at HP.out i d c
            cases eA
            have HX := Aside0.mk ((HB.out.cell (World.block_lt_of_cell? w _ hx)).trans hx)
            have HQ := Aside0.mk (show Kd.V (Kd.int .u8) 5 wr w.heap.size (fun k_ => k_ < w.heap.size) (.slice A0 (sha_Write.row l1 i).length c0) (sha_Write.row l1 i) from Kd.V_mk hl0 (Kd.F_below (Kd.C_F (Kd.heap_int .u8) hC0) HB.out))
            clear hx hl0 hC0
            replace d := eq_true d
            replace c := eq_true c
            by_cases e : s3 ≥ 2305843009213693952
            · rw [if_pos e] at hR
              have eb0 : decide (s3 ≥ 2305843009213693952) = true := decide_eq_true e
              have eb1 : decide (2305843009213693952 ≤ s3) = true := decide_eq_true e
              have hR := Option.some.inj hR
              simp only [Prod.mk.injEq] at hR
              obtain ⟨rfl, rfl, rfl, rfl⟩ := hR
              clear e
              have hx := HX.out
              go_wp2_with (first | ((with_reducible refine gate_callee (f := 31) rfl ?_); refine goesL_ (some 22) rfl rfl Tryd.func31 (by kernel_rfl) rfl #[.pointer (some ⟨gx, 0, none⟩), .slice A0 (sha_Write.row l1 i).length c0] rfl (by (try simp only [List.map_toArray, List.map_cons, List.map_nil]); first | done | rfl) ?_; refine (sha_writer_write.calls k1 (fun k_ => ((P0_1_ k_ ∨ w.heap.size ≤ k_) ∧ k_ ≠ gx ∧ k_ ≠ g4) ∨ k_ < w.heap.size) A0 c0 (sha_Write.row l1 i) gx st AR cR rest n s1 s2 s3 _ (Kd.V_mono HQ.out (fun _ h_ => .inr h_)) (Kd.V_mono HV.out (fun _ h_ => .inl h_)) BX.out (fun k_ hk_ => hk_.elim (fun h_ => h_.2.1) (fun h_ => Nat.ne_of_lt (Nat.lt_of_lt_of_le h_ GEgx.out))) AT.out).mono ?_; rintro e w6 ⟨AR1, cR1, rfl, hv, hbk_, hg⟩; refine ⟨_, rfl, ?_⟩; replace HV := Aside0.mk (Kd.V_mono hv (fun k_ h_ => (⟨.inr (Nat.le_trans (below_size HB.out) h_), fun e_ => absurd (blk_lt BX.out) (by omega), fun e_ => absurd (blk_lt B4.out) (by omega)⟩ : (P0_1_ k_ ∨ w.heap.size ≤ k_) ∧ k_ ≠ gx ∧ k_ ≠ g4))); replace B4 := Aside0.mk (blk_grown B4.out hg (fun e_ => N4X.out (Option.some.inj e_))); replace HB := Aside0.mk (Below.grown HB.out hg (below_size HB.out) (fun _ e_ => by cases e_; exact GEgx.out)); replace BX := Aside0.mk (hbk_); clear hbk_ hg hv HX HQ) | ((with_reducible refine gate_dst (N := 25) rfl ?_); refine Ar.cload_event rfl (T := 34) rfl Tryd.underlying34 rfl (A := ⟨gx, 9, none⟩) rfl (v := .int .u64 s3) (Ar.blk_at BX.out (Ar.wC_9 _ _ _)) ?_) | ((with_reducible refine gate_dst (N := 27) rfl ?_); refine Ar.gbuild_event rfl (T := 36) rfl (D := (Ar.cells .u32 8 (List.replicate 8 0) ++ #[.slice none 0 0, .int .u64 0])) (by simp only [List.map_toArray, List.map_cons, List.map_nil]; exact fatBuild36_ _) ?_) | ((with_reducible refine gate_store (t := 36) (p := 4) rfl ?_); refine Ar.gstore_event rfl rfl rfl (D := (Ar.cells .u32 8 (List.replicate 8 0) ++ #[.slice none 0 0, .int .u64 0])) (by simp only [Array.size_append, Ar.cells_size, List.size_toArray, List.length_cons, List.length_nil]; kernel_rfl) (g := g4) rfl qg B4.out (by simp [Ar.cells_size]) (by repeat (first | (with_reducible refine Ar.all_app ?_ ?_) | (with_reducible exact Ar.cells_one _ _ _) | (focus (simp [Value.oneCell']; done)) | rfl)) ?_; intro w7 hbk_ hg; replace HB := Aside0.mk (Below.grown HB.out hg (below_size HB.out) (fun _ e_ => by cases e_; exact GEg4.out)); replace B4 := Aside0.mk (hbk_); clear hbk_ hg))
              refine bodyPost_ret (results_ct rfl _ _ g4 36 (Ar.cells .u32 8 (List.replicate 8 0) ++ #[.slice none 0 0, .int .u64 0]) (0, 0) _ rfl B4.out Tryd.underlying36 rfl (by simp only [Array.size_append, Ar.cells_size, List.size_toArray, List.length_cons, List.length_nil]; kernel_rfl)) rfl ?_
              exact ⟨_, rfl, Kd.V_nil _ _ _ _ _, HB.out⟩
            · rw [if_neg e] at hR
              have eb0 : decide (s3 ≥ 2305843009213693952) = false := decide_eq_false e
              have eb1 : decide (2305843009213693952 ≤ s3) = false := decide_eq_false e
              have H' := Aside0.mk hR
              clear hR e
              have hx := HX.out
              go_wp2_with (first | ((with_reducible refine gate_callee (f := 31) rfl ?_); refine goesL_ (some 22) rfl rfl Tryd.func31 (by kernel_rfl) rfl #[.pointer (some ⟨gx, 0, none⟩), .slice A0 (sha_Write.row l1 i).length c0] rfl (by (try simp only [List.map_toArray, List.map_cons, List.map_nil]); first | done | rfl) ?_; refine (sha_writer_write.calls k1 (fun k_ => ((P0_1_ k_ ∨ w.heap.size ≤ k_) ∧ k_ ≠ gx ∧ k_ ≠ g4) ∨ k_ < w.heap.size) A0 c0 (sha_Write.row l1 i) gx st AR cR rest n s1 s2 s3 _ (Kd.V_mono HQ.out (fun _ h_ => .inr h_)) (Kd.V_mono HV.out (fun _ h_ => .inl h_)) BX.out (fun k_ hk_ => hk_.elim (fun h_ => h_.2.1) (fun h_ => Nat.ne_of_lt (Nat.lt_of_lt_of_le h_ GEgx.out))) AT.out).mono ?_; rintro e w6 ⟨AR1, cR1, rfl, hv, hbk_, hg⟩; refine ⟨_, rfl, ?_⟩; replace HV := Aside0.mk (Kd.V_mono hv (fun k_ h_ => (⟨.inr (Nat.le_trans (below_size HB.out) h_), fun e_ => absurd (blk_lt BX.out) (by omega), fun e_ => absurd (blk_lt B4.out) (by omega)⟩ : (P0_1_ k_ ∨ w.heap.size ≤ k_) ∧ k_ ≠ gx ∧ k_ ≠ g4))); replace B4 := Aside0.mk (blk_grown B4.out hg (fun e_ => N4X.out (Option.some.inj e_))); replace HB := Aside0.mk (Below.grown HB.out hg (below_size HB.out) (fun _ e_ => by cases e_; exact GEgx.out)); replace BX := Aside0.mk (hbk_); clear hbk_ hg hv HX HQ) | ((with_reducible refine gate_dst (N := 25) rfl ?_); refine Ar.cload_event rfl (T := 34) rfl Tryd.underlying34 rfl (A := ⟨gx, 9, none⟩) rfl (v := .int .u64 s3) (Ar.blk_at BX.out (Ar.wC_9 _ _ _)) ?_))
              go_roundg k1
              case measure => have := HK1.out; omega
              case rel => exact ⟨_, s1, s2, s3, AR1, cR1, rfl, H', ⟨by have := HK1.out; omega⟩, B4, BX, HV, HB⟩
          · rw [if_neg d] at H
            exact absurd H (by simp)
        · rw [if_neg c] at H
          have cb0 : decide (i < (l1.length : Int)) = false := decide_eq_false c
          have H := Option.some.inj H
          simp only [Prod.mk.injEq] at H
          obtain ⟨rfl, rfl, rfl, rfl⟩ := H
          clear c
          go_wp2_with (first | ((with_reducible refine gate_dst (N := 30) rfl ?_); refine Ar.gload_event rfl (T := 36) rfl Tryd.underlying36 rfl (D := (Ar.wC st (.slice AR rest.length cR) n)) (by simp only [Array.size_append, Ar.cells_size, List.size_toArray, List.length_cons, List.length_nil]; kernel_rfl) (A := ⟨gx, 0, none⟩) rfl (Ar.blk_part BX.out Ar.in_whole) ?_) | ((with_reducible refine gate_store (t := 36) (p := 4) rfl ?_); refine Ar.gstore_event rfl rfl rfl (D := (Ar.wC st (.slice AR rest.length cR) n)) (by simp only [Array.size_append, Ar.cells_size, List.size_toArray, List.length_cons, List.length_nil]; kernel_rfl) (g := g4) rfl qg B4.out (by simp [Ar.cells_size]) (by repeat (first | (with_reducible refine Ar.all_app ?_ ?_) | (with_reducible exact Ar.cells_one _ _ _) | (focus (simp [Value.oneCell']; done)) | rfl)) ?_; intro w7 hbk_ hg; replace HV := Aside0.mk ((Kd.V_mono (Kd.V_grown HV.out hg (fun k_ hk_ e_ => hk_.2.2 (Option.some.inj e_))) (fun _ h_ => h_.1) : Kd.V (Kd.int .u8) 5 w7 w.heap.size (fun k_ => P0_1_ k_ ∨ w.heap.size ≤ k_) (.slice AR rest.length cR) rest)); replace HB := Aside0.mk (Below.grown HB.out hg (below_size HB.out) (fun _ e_ => by cases e_; exact GEg4.out)); replace B4 := Aside0.mk (hbk_); clear hbk_ hg))
          refine bodyPost_ret (results_ct rfl _ _ g4 36 (Ar.wC st (.slice AR rest.length cR) n) (0, 0) _ rfl B4.out Tryd.underlying36 rfl (by simp only [Array.size_append, Ar.cells_size, List.size_toArray, List.length_cons, List.length_nil]; kernel_rfl)) rfl ?_
          exact ⟨_, rfl, HV.out, HB.out⟩
def pad_Blocks.f (a0 : Int) : Option (Int) := if a0 ≥ 2305843009213693952 then (some 0) else (some (IntKind.u64.wrap (Int.tdiv (IntKind.u64.wrap ((IntKind.u64.wrap (a0 + 8)) + 64)) 64)))
set_option maxHeartbeats 8000000 in
set_option maxRecDepth 100000 in
theorem pad_Blocks.calls (a0 : Int) (r : Int) (w : World) (h : pad_Blocks.f a0 = some r) :
    Calls Tryd.prog 46 #[.int .u64 a0] w fun e w' => e = .returned (.int .u64 r) ∧ Drawn0 w w' := by
  have H : (if a0 ≥ 2305843009213693952 then (some 0) else (some (IntKind.u64.wrap (Int.tdiv (IntKind.u64.wrap ((IntKind.u64.wrap (a0 + 8)) + 64)) 64)))) = some r := h
  clear h
  by_cases c2 : a0 ≥ 2305843009213693952
  · rw [if_pos c2] at H
    have c2b0 : decide (2305843009213693952 ≤ a0) = true := decide_eq_true c2
    clear c2
    obtain rfl := Option.some.inj H
    go_enter Tryd.func46, Tryd.ntmps46
    go_wp2
    go_ret
    exact ⟨by first | rfl | (simp; done) | (simp [*]; done), by repeat (first | exact Drawn0.refl _ | apply Drawn0.step)⟩
  · rw [if_neg c2] at H
    have c2b0 : decide (2305843009213693952 ≤ a0) = false := decide_eq_false c2
    clear c2
    obtain rfl := Option.some.inj H
    go_enter Tryd.func46, Tryd.ntmps46
    go_wp2
    go_ret
    exact ⟨by first | rfl | (simp; done) | (simp [*]; done), by repeat (first | exact Drawn0.refl _ | apply Drawn0.step)⟩
def word_Put64.l0 : Nat → Int → Int → List Int → Option (List Int)
 | 0, _, _, _ => none
 | k + 1, x0, x4, x144000 => if x4 < 8 then (if 0 ≤ (IntKind.u64.wrap (wrap64 (8 * (wrap64 (7 - x4))))) then (if 0 ≤ x4 then (word_Put64.l0 k x0 (wrap64 (x4 + 1)) (Ar.set 8 x144000 x4 ((shr .u64 x0 (IntKind.u64.wrap (wrap64 (8 * (wrap64 (7 - x4)))))) % 256))) else (none)) else (none)) else (some x144000)
def word_Put64.f (k : Nat) (a0 : Int) : Option (List Int) := word_Put64.l0 k a0 0 (List.replicate 8 0)
theorem word_Put64.mono_l : ∀ k, (∀ y0 y1 y2, LeO (word_Put64.l0 k y0 y1 y2) (word_Put64.l0 (k + 1) y0 y1 y2))
 | 0 => fun _ _ _ r h => by simp [word_Put64.l0] at h
 | k + 1 => by
  have ih0 := word_Put64.mono_l k
  ·intro y0 y1 y2
   unfold word_Put64.l0
   repeat' first
   | (with_reducible exact ih0 _ _ _)
   | (with_reducible exact LeO.refl _)
   | (with_reducible exact LeO.none _)
   | (with_reducible refine LeO.ite ?_ ?_)
   | (with_reducible refine LeO.bind ?_ (fun _ => ?_))
   | exact ih0 _ _ _
   | exact LeO.none _
   | refine LeO.ite ?_ ?_
   | refine LeO.bind ?_ (fun _ => ?_)
theorem word_Put64.mono : ∀ a0 k, LeO (word_Put64.f k a0) (word_Put64.f (k + 1) a0) := by
 intro a0 k
 have ih0 := word_Put64.mono_l k
 unfold word_Put64.f
 repeat' first
   | (with_reducible exact ih0 _ _ _)
   | (with_reducible exact LeO.refl _)
   | (with_reducible exact LeO.none _)
   | (with_reducible refine LeO.ite ?_ ?_)
   | (with_reducible refine LeO.bind ?_ (fun _ => ?_))
   | exact ih0 _ _ _
   | exact LeO.none _
   | refine LeO.ite ?_ ?_
   | refine LeO.bind ?_ (fun _ => ?_)
set_option maxHeartbeats 8000000 in
set_option maxRecDepth 100000 in
theorem word_Put64.calls (k : Nat) (a0 : Int) (r : List Int) (w : World) (h : word_Put64.f k a0 = some r) :
  Calls Tryd.prog 47 #[.int .u64 a0] w fun e w' => e = .returned (.agg (Ar.cells .u8 8 r)) ∧ Below w.heap.size w w' := by
 have HB := Aside0.mk (Below.refl w.heap.size w)
 have H : (word_Put64.l0 k a0 0 (List.replicate 8 0)) = some r := h
 clear h
 have H' := Aside0.mk H
 clear H
 go_enter Tryd.func47, Tryd.ntmps47
 go_wp2_with (first | ((with_reducible refine gate_dst (N := 2) rfl ?_); (try (refine gate_guard (by rfl) ?_; dsimp only)); refine qE (N := 2) (cs := (Ar.cells .u8 8 (List.replicate 8 0))) (t := 84) ?_; intro gb143 hg w2 hbox hb; have BK143 := Aside0.mk (hbox); have GW143 := Aside0.mk ((qe HB hg : w.heap.size ≤ gb143)); have GE143 := Aside0.mk ((qe HB hg : w.heap.size ≤ gb143)); replace HB := Aside0.mk (below_step (qs HB) hb); clear hb hbox hg))
 go_loopg [4] k (fun kq v4 w' => ∃ (x4_1 : Int) (x144000_1 : List Int), v4 = .int .i64 x4_1 ∧ Aside0 (word_Put64.l0 kq a0 x4_1 x144000_1 = some r) ∧ Aside0 (kq ≤ k) ∧ Aside0 (w'.heap[gb143]? = some (.cells (Ar.cells .u8 8 x144000_1) 84 (0, 0))) ∧ Aside0 (Below w.heap.size w w'))
 case atStart => exact ⟨(0), ((List.replicate 8 0)), (by first | rfl | (simp; done) | (simp [*]; done)), H', ⟨Nat.le_refl _⟩, ⟨by (with_reducible repeat (first | refine blk_drewN ?_ _ | refine blk_drew ?_ | refine blk_alloc ?_ _)); exact BK143.out⟩, ⟨by repeat (first | (with_reducible first | exact HB.out | apply below_alloc | apply pw_below_drewN | apply below_drew1 | refine below_set ?_ GE143.out) | exact HB.out)⟩⟩
 case round =>
  clear H'
  try clear p2
  obtain ⟨x4_1, x144000_1, rfl, HA, HK1, BK143, HB⟩ := hrel
  cases gk with
  | zero => exact absurd HA.out (by simp [word_Put64.l0])
  | succ k1 =>
   have H := HA.out
   clear HA
   simp only [word_Put64.l0] at H
   by_cases c3 : x4_1 < 8
   ·rw [if_pos c3] at H
    have c3b0 : decide (x4_1 < 8) = true := decide_eq_true c3
    clear c3
    obtain ⟨ji4, hji4⟩ : ∃ j_ : Int, (IntKind.u64.wrap (wrap64 (8 * (wrap64 (7 - x4_1))))) = j_ := ⟨_, rfl⟩
    replace H : (if 0 ≤ (ji4) then (if 0 ≤ x4_1 then (word_Put64.l0 k1 a0 (wrap64 (x4_1 + 1)) (Ar.set 8 x144000_1 x4_1 ((shr .u64 a0 (ji4)) % 256))) else (none)) else (none)) = some r := by first | (rw [hji4] at H; exact H) | (simp only [hji4] at H ⊢; exact H)
    by_cases c5 : 0 ≤ (ji4)
    ·rw [if_pos c5] at H
     have c5b0 := eq_true c5
     have c5b1 : decide (0 ≤ (ji4)) = true := decide_eq_true c5
     clear c5
     obtain ⟨ji6, hji6⟩ : ∃ j_ : Int, (shr .u64 a0 (ji4)) = j_ := ⟨_, rfl⟩
     replace H : (if 0 ≤ x4_1 then (word_Put64.l0 k1 a0 (wrap64 (x4_1 + 1)) (Ar.set 8 x144000_1 x4_1 ((ji6) % 256))) else (none)) = some r := by first | (rw [hji6] at H; exact H) | (simp only [hji6] at H ⊢; exact H)
     have hji6_ : (a0 / 2 ^ min (ji4).toNat 64) = ji6 := hji6
     have hji6z : (ji4) ≤ 64 → (a0 / 2 ^ (ji4).toNat) = ji6 := shr_small hji6
     by_cases c7 : 0 ≤ x4_1
     ·rw [if_pos c7] at H
      have c7b0 : decide (0 ≤ x4_1) = true := decide_eq_true c7
      clear c7
      obtain ⟨y144, hy144⟩ : ∃ y_ : List Int, y_ = (Ar.set 8 x144000_1 x4_1 ((ji6) % 256)) := ⟨_, rfl⟩
      replace H : (word_Put64.l0 k1 a0 (wrap64 (x4_1 + 1)) y144) = some r := by first | (rw [hy144]; with_reducible exact H) | (have H2_ := (Option.bind_some _ _).symm.trans H; rw [hy144]; with_reducible exact H2_) | (have H2_ := (Option.bind_some _ _).symm.trans H; with_reducible exact H2_) | with_reducible exact H | (rw [hy144]; exact H) | exact H
      have Ny144 := Aside0.mk hy144
      clear hy144
      have H' := Aside0.mk H
      clear H
      go_wp2_with (first | ((with_reducible refine gate_dst (N := 15) rfl ?_); (try (refine gate_guard (by rfl) ?_; dsimp only)); refine Ar.idx_event rfl (D := 15) rfl (T := 84) (n := 8) rfl Tryd.underlying84 (by kernel_rfl) (g := gb143) rfl (j := x4_1) qg qo qo ?_) | ((with_reducible refine gate_store (t := 5) (p := 15) rfl ?_); refine Ar.put_event rfl rfl rfl (by kernel_rfl) (g := gb143) (j := x4_1) rfl (z := ((ji6) % 256)) qg (qb BK143) qo qo ?_; intro w8 hbk_ hg; rw [← Ny144.out] at hbk_; replace BK143 := Aside0.mk (hbk_); replace HB := Aside0.mk (Below.grown (qs HB) hg ((below_size (qs HB))) (fun _ e_ => by cases e_; exact GE143.out)); clear hbk_ hg))
      go_roundg k1
      case measure => have := HK1.out; omega
      case rel => exact ⟨(wrap64 (x4_1 + 1)), (y144), (by first | rfl | (simp; done) | (simp [*]; done)), H', ⟨by have := HK1.out; omega⟩, ⟨by (with_reducible repeat (first | refine blk_drewN ?_ _ | refine blk_drew ?_ | refine blk_alloc ?_ _)); exact BK143.out⟩, ⟨by repeat (first | (with_reducible first | exact HB.out | apply below_alloc | apply pw_below_drewN | apply below_drew1 | refine below_set ?_ GE143.out) | exact HB.out)⟩⟩
     ·rw [if_neg c7] at H
      exact absurd H (by simp)
    ·rw [if_neg c5] at H
     exact absurd H (by simp)
   ·rw [if_neg c3] at H
    have c3b0 : decide (x4_1 < 8) = false := decide_eq_false c3
    clear c3
    obtain rfl := Option.some.inj H
    go_wp2_with (first | ((with_reducible refine gate_dst (N := 17) rfl ?_); (try (refine gate_guard (by rfl) ?_; dsimp only)); refine Ar.load_event rfl (D := 17) rfl (T := 84) rfl Tryd.underlying84 (by kernel_rfl) (g := gb143) rfl (qb BK143) ?_) | ((with_reducible refine gate_store (t := 84) (p := 2) rfl ?_); refine Ar.store_all_event rfl rfl rfl Tryd.underlying84 (by kernel_rfl) (g := gb143) rfl (z := x144000_1) qg (qb BK143) ?_; intro w9 hbk_ hg; replace BK143 := Aside0.mk (hbk_); replace HB := Aside0.mk (Below.grown (qs HB) hg ((below_size (qs HB))) (fun _ e_ => by cases e_; exact GE143.out)); clear hbk_ hg))
    refine bodyPost_ret (results_cell_row rfl _ _ gb143 84 (Ar.cells .u8 8 x144000_1) (0, 0) _ rfl (qb BK143) Tryd.underlying84 rfl qZ) rfl ?_
    exact ⟨by first | rfl | (simp [errW_none, errW_some] <;> rfl) | (simp [*, errW_none, errW_some] <;> rfl), by repeat (first | (with_reducible first | exact HB.out | apply below_alloc | apply pw_below_drewN | apply below_drew1 | refine below_set ?_ GE143.out) | exact HB.out)⟩
def pad_Tail.f (k : Nat) (l0 : List Int) (a1 : Int) : Option (List Int × Bool) := if a1 ≥ 2305843009213693952 then some ([], false) else (if IntKind.u64.wrap (l0.length : Int) = Int.tmod a1 64 then
  ((pad_Blocks.f a1).bind fun q => (word_Put64.f k (IntKind.u64.wrap (a1 * 8))).bind fun b => if (l0.length : Int) + 9 ≤ wrap64 (wrap64 (IntKind.u64.wrap (q - IntKind.u64.wrap (Int.tdiv a1 64))) * 64) ∧ wrap64 (wrap64 (IntKind.u64.wrap (q - IntKind.u64.wrap (Int.tdiv a1 64))) * 64) ≤ 4096 then
    some (((l0 ++ List.replicate ((wrap64 (wrap64 (IntKind.u64.wrap (q - IntKind.u64.wrap (Int.tdiv a1 64))) * 64)).toNat - l0.length) 0).set l0.length 128).take ((wrap64 (wrap64 (IntKind.u64.wrap (q - IntKind.u64.wrap (Int.tdiv a1 64))) * 64)).toNat - 8) ++ Ar.fit 8 b, true) else none) else some ([], false))
theorem pad_Tail.mono : ∀ a0 a1 k, LeO (pad_Tail.f k a0 a1) (pad_Tail.f (k + 1) a0 a1) := fun a0 a1 k => by
  unfold pad_Tail.f
  exact LeO.ite (LeO.refl _) (LeO.ite (LeO.bind (LeO.refl _) (fun _ => LeO.bind (word_Put64.mono _ _) (fun _ => LeO.refl _))) (LeO.refl _))
set_option maxHeartbeats 8000000 in
set_option maxRecDepth 100000 in
theorem pad_Tail.calls (k : Nat) (A0 : Option Addr) (c0 : Nat) (l0 : List Int) (a1 : Int) (r1 : List Int) (r2 : Bool) (w : World) (hr0 : Kd.C (Kd.int .u8) w A0 l0.length l0) (hc0 : l0.length ≤ c0) (h : pad_Tail.f k l0 a1 = some (r1, r2)) :
    Calls Tryd.prog 32 #[.slice A0 l0.length c0, .int .u64 a1] w fun e w' => ∃ v0_ : Value, e = .returned (.tuple #[v0_, .bool r2]) ∧ Kd.R (Kd.int .u8) 5 w' w.heap.size (fun _ => True) v0_ r1 ∧ Below w.heap.size w w' := by
  obtain ⟨i5, hi5, _, hsz5, _⟩ := info_parts info5
  have HR0 := Aside0.mk hr0
  have HB := Aside0.mk (Below.refl w.heap.size w)
  clear hr0 hc0
  unfold pad_Tail.f at h
  by_cases c : a1 ≥ 2305843009213693952
  · rw [if_pos c] at h
    simp only [Option.some.injEq, Prod.mk.injEq] at h
    obtain ⟨rfl, rfl⟩ := h
    have cb : decide (2305843009213693952 ≤ a1) = true := decide_eq_true c
    clear c
    go_enter Tryd.func32, Tryd.ntmps32
    go_wp2
    go_ret2
    exact ⟨_, rfl, Kd.R_nil _ _ _ _ _, HB.out⟩
  · rw [if_neg c] at h
    have cb : decide (2305843009213693952 ≤ a1) = false := decide_eq_false c
    clear c
    by_cases d : IntKind.u64.wrap (l0.length : Int) = Int.tmod a1 64
    · rw [if_pos d] at h
      have db0 : (IntKind.u64.wrap (l0.length : Int) != Int.tmod a1 64) = false := bne_eq_false_iff_eq.mpr d
      have db1 : (IntKind.u64.wrap (l0.length : Int) == Int.tmod a1 64) = true := beq_iff_eq.mpr d
      clear d
      replace h := Option.bind_eq_some_iff.mp h
      obtain ⟨q, A1, h⟩ := h
      replace h := Option.bind_eq_some_iff.mp h
      obtain ⟨b, A2, h⟩ := h
      have A1 := Aside0.mk A1
      have A2 := Aside0.mk A2
      obtain ⟨s, hs⟩ : ∃ s, wrap64 (wrap64 (IntKind.u64.wrap (q - IntKind.u64.wrap (Int.tdiv a1 64))) * 64) = s := ⟨_, rfl⟩
      rw [hs] at h
      by_cases c : (l0.length : Int) + 9 ≤ s ∧ s ≤ 4096
      · rw [if_pos c] at h
        simp only [Option.some.injEq, Prod.mk.injEq] at h
        obtain ⟨hr1, rfl⟩ := h
        obtain ⟨m, rfl⟩ := Int.eq_ofNat_of_zero_le (show 0 ≤ s by omega)
        rw [Int.toNat_natCast] at hr1
        have HR1 := Aside0.mk hr1
        have CM := Aside0.mk (show l0.length + 9 ≤ m ∧ m ≤ 4096 by omega)
        have hsb : decide (0 ≤ (m : Int)) = true := decide_eq_true (Int.natCast_nonneg _)
        clear c hr1
        have p1 := eq_true (show 0 ≤ (l0.length : Int) from Int.natCast_nonneg _)
        have q1 := eq_true (show (l0.length : Int) < (m : Int) by have := CM.out; omega)
        have q2 := eq_true (show l0.length < m by have := CM.out; omega)
        go_enter Tryd.func32, Tryd.ntmps32
        go_wp2_with (first | ((with_reducible refine gate_callee (f := 46) rfl ?_); refine goesL_ (some 20) rfl rfl Tryd.func46 (by kernel_rfl) rfl #[.int .u64 a1] rfl (by (try simp only [List.map_toArray, List.map_cons, List.map_nil]); first | done | rfl) ?_; (with_reducible refine (pad_Blocks.calls a1 q _ A1.out).mono ?_); rintro e w' ⟨rfl, ⟨nd, rfl⟩⟩; refine ⟨_, rfl, ?_⟩) | ((with_reducible refine gate_dst (N := 27) rfl ?_); refine Kd.R_make (Kd.int .u8) _ 5 rfl (N := 27) rfl 29 _ _ rfl (m : Int) (congrArg (Value.int .i64) hs) (congrArg (Value.int .i64) hs) Tryd.underlying29 (.int .u8 0) 1 info5 rfl (by decide) (by omega) 0 (ok := fun _ => True) (okp := fun _ => True) rfl (fun _ hk => hk) trivial (Int.natCast_nonneg _) (by have := CM.out; omega) (Below.refl _ _) (Nat.le_refl _) ?_; intro v w5 ho hb hg_ hnew_; clear hg_ hnew_; rw [Int.toNat_natCast] at ho; obtain ⟨g, cap, hv, _, _, _⟩ := Kd.R_form ho (by rw [List.length_replicate]; have := CM.out; omega); rw [List.length_replicate] at hv; subst hv; have HO := Aside0.mk (Kd.R_lower ho (below_size (qs HB))); have n1_ := Aside0.mk (below_step (qs HB) hb); clear HB; have HB := n1_; clear n1_ ho hb) | ((with_reducible refine gate_builtin (b := .copy) (xs := #[.tmp 28, .tmp 29]) rfl ?_); refine Ar.copy_in_event rfl rfl Tryd.underlying29 (by kernel_rfl) (k := .u8) (g := g) (n := m) (cap := cap) (l := l0) rfl rfl (qr HO) (Kd.C_below HR0.out (qs HB)) (by rw [List.length_replicate]; have := CM.out; omega) ?_; intro w6 ho hg; replace HB := Aside0.mk (Below.grown (qs HB) hg (below_size (qs HB)) (fun _ e_ => by cases e_; exact Kd.R_base HO.out g rfl)); replace HO := Aside0.mk ho; clear ho hg; have HL := Aside0.mk (show (l0 ++ (List.replicate m 0).drop l0.length).length = m by rw [List.length_append, List.length_drop, List.length_replicate]; have := CM.out; omega); have hx34 := (Ar.R_cell HO.out l0.length (by rw [HL.out]; have := CM.out; omega)).1; have hf34 := (Ar.R_cell HO.out l0.length (by rw [HL.out]; have := CM.out; omega)).2) | ((with_reducible refine gate_store (t := 5) (p := 34) rfl ?_); refine store_event (t := 5) (p := 34) (v := ?vv34) (w1 := (w6.setCell ⟨g, l0.length, none⟩ (.int .u8 128))) ?hg ?ho ?hn ?hr ?_; (case ho => rfl); (case hg => rfl); (case hn => rfl); (case hr => first | (go_simp; done) | (go_simp; rfl)); intro w7 hw; have HP := Kd.R_putg HO.out (l0.length : Int) 128; rw [Int.toNat_natCast] at HP; rw [← hw] at HP; replace HB := Aside0.mk (show Below w.heap.size w w7 by rw [hw]; exact HB.out.setCell (p := ⟨g, l0.length, none⟩) (Kd.R_base HO.out g rfl) _); replace HO := Aside0.mk HP.1; clear HP hw hx34 hf34) | ((with_reducible refine gate_callee (f := 47) rfl ?_); refine goesL_ (some 37) rfl rfl Tryd.func47 (by kernel_rfl) rfl #[.int .u64 (IntKind.u64.wrap (a1 * 8))] rfl (by (try simp only [List.map_toArray, List.map_cons, List.map_nil]); first | done | rfl) ?_; (with_reducible refine (word_Put64.calls k (IntKind.u64.wrap (a1 * 8)) b _ A2.out).mono ?_); rintro e w8 ⟨rfl, hb⟩; refine ⟨_, rfl, ?_⟩; replace HO := Aside0.mk (Kd.R_below (qr HO) hb); replace HB := Aside0.mk (below_step (qs HB) hb); clear hb) | ((with_reducible refine gate_dst (N := 8) rfl ?_); refine box_event ?hg (N := 8) ?hd (cs := (Ar.cells .u8 8 (List.replicate 8 0))) (t := 84) ?hr ?_; (case hd => rfl); (case hg => rfl); (case hr => exact Ar.alloc_run rfl (by kernel_rfl)); intro gb hg w9 hbox hb; have BK := Aside0.mk hbox; have GE := Aside0.mk ((by rw [hg]; exact below_size (qs HB)) : w.heap.size ≤ gb); replace HO := Aside0.mk (Kd.R_below (qr HO) hb); replace HB := Aside0.mk (below_step (qs HB) hb); clear hbox hb hg) | ((with_reducible refine gate_store (t := 84) (p := 8) rfl ?_); refine Ar.store_all_event rfl rfl rfl Tryd.underlying84 (by kernel_rfl) (g := gb) rfl (z := b) qg (qb BK) ?_; intro w10 hbk_ hg; replace HB := Aside0.mk (Below.grown (qs HB) hg (below_size (qs HB)) (fun _ e_ => by cases e_; exact GE.out)); replace HO := Aside0.mk (Kd.R_mono (Kd.R_grown (Kd.R_types (qr HO) BK.out (by decide)) hg (fun k_ hk_ e_ => hk_.2 (Option.some.inj e_))) (fun _ h_ => h_.1)); replace BK := Aside0.mk hbk_; clear hbk_ hg; have hcut := fun W : World => Ar.cut_own_run (P := Tryd.prog) (W := W) Tryd.underlying29 hi5 hsz5 (g := g) (n := m) (cap := cap) ((m : Int) - 8) (by have := CM.out; omega) (by have := CM.out; omega) (by have := (Kd.R_reads' HO.out).2.1; omega); rw [show ((m : Int) - 8).toNat = m - 8 by omega, show m - (m - 8) = 8 by have := CM.out; omega] at hcut; have hw40 : wrap64 ((m : Int) - 8) = (m : Int) - 8 := (by have := CM.out; unfold wrap64; omega); have hw41 : IntKind.i64.wrap ((m : Int) - 8) = (m : Int) - 8 := (i64_w _).trans hw40))
        refine start_ (n := 6) (S := fun w' => True) (ds := []) #[false, false, false, false, false, false] (by kernel_rfl) rfl rfl trivial (fun hHeld => ?_)
        refine pure_ (i := 0) (N := some 38) (v := ?_) (a' := ?_) #[true, false, false, false, false, false] rfl rfl (by kernel_rfl) (fun _ _ _ h => h) (Or.inl ⟨by rfl, ?_⟩) ?_ ?_
        rotate_left
        · intro w'
          go_simp
          with_reducible rfl
        rotate_left
        · simp only [Act.put, zA_, zB_, zC_, i64_w, i32_w]
          rfl
        refine pure_ (i := 1) (N := some 39) (v := ?_) (a' := ?_) #[true, true, false, false, false, false] rfl rfl (by kernel_rfl) (fun _ _ _ h => h) (Or.inl ⟨by rfl, ?_⟩) ?_ ?_
        rotate_left
        · intro w'
          go_simp
          with_reducible rfl
        rotate_left
        · simp only [Act.put, zA_, zB_, zC_, i64_w, i32_w]
          rfl
        refine pure_ (i := 2) (N := some 40) (v := ?_) (a' := ?_) #[true, true, true, false, false, false] rfl rfl (by kernel_rfl) (fun _ _ _ h => h) (Or.inl ⟨by rfl, ?_⟩) ?_ ?_
        rotate_left
        · intro w'
          go_simp
          with_reducible rfl
        rotate_left
        · simp only [Act.put, zA_, zB_, zC_, i64_w, i32_w]
          rfl
        refine pure_ (i := 3) (N := some 41) (v := ?_) (a' := ?_) #[true, true, true, true, false, false] rfl rfl (by kernel_rfl) (fun _ _ _ h => h) (Or.inl ⟨by rfl, ?_⟩) ?_ ?_
        rotate_left
        · intro w'
          go_simp
          with_reducible rfl
        rotate_left
        · simp only [Act.put, zA_, zB_, zC_, i64_w, i32_w]
          rfl
        refine pure_ (i := 4) (N := some 42) (v := ?_) (a' := ?_) #[true, true, true, true, true, false] rfl rfl (by kernel_rfl) (fun _ _ _ h => h) (Or.inl ⟨by rfl, ?_⟩) ?_ ?_
        rotate_left
        · intro w'
          go_simp
          with_reducible rfl
        rotate_left
        · simp only [Act.put, zA_, zB_, zC_, i64_w, i32_w]
          rfl
        refine one_ (i := 5) (N := some 43) #[true, true, true, true, true, true] rfl rfl (by kernel_rfl) (by decide) (fun K hK => ?_)
        refine Ar.copy_at_step (by rfl) rfl Tryd.underlying29 (by kernel_rfl) (k := .u8) (g := g) (n := m) (cap := cap) (gs := gb) (m := 8) (s := b) (q := m - 8) rfl rfl (qr HO) (qb BK) (by rw [List.length_set, HL.out]; have := CM.out; omega) ?_
        intro w11 ho hg
        have n0_ := Aside0.mk (show Kd.R (Kd.int .u8) 5 w11 w.heap.size (fun _ => True) (.slice (some ⟨g, 0, none⟩) m cap) (((l0 ++ List.replicate (m - l0.length) 0).set l0.length 128).take (m - 8) ++ Ar.fit 8 b) by rw [List.drop_replicate] at ho; exact ho)
        have n1_ := Aside0.mk (Below.grown (qs HB) hg (below_size (qs HB)) (fun _ e_ => by cases e_; exact Kd.R_base HO.out g rfl))
        clear HO HB BK
        have HO := n0_
        have HB := n1_
        clear n0_ n1_ ho hg
        refine hK.out _ _ trivial (fun hHeld => ?_)
        clear hK K
        refine norm_ (a' := ?_) ?_ ?_
        rotate_left
        · show Act.put _ (some 43) _ = _
          simp only [Act.put, zA_, zB_, zC_, i64_w, i32_w]
          rfl
        refine done_ (by kernel_rfl) ?_
        try go_wp2
        go_ret2
        refine ⟨_, rfl, ?_, HB.out⟩
        have e := HR1.out
        rw [← e]
        exact HO.out
      · rw [if_neg c] at h
        exact absurd h (by simp)
    · rw [if_neg d] at h
      have db0 : (IntKind.u64.wrap (l0.length : Int) != Int.tmod a1 64) = true := bne_iff_ne.mpr d
      have db1 : (IntKind.u64.wrap (l0.length : Int) == Int.tmod a1 64) = false := beq_eq_false_iff_ne.mpr d
      clear d
      simp only [Option.some.injEq, Prod.mk.injEq] at h
      obtain ⟨rfl, rfl⟩ := h
      go_enter Tryd.func32, Tryd.ntmps32
      go_wp2
      go_ret2
      exact ⟨_, rfl, Kd.R_nil _ _ _ _ _, HB.out⟩
def word_Put32.f (a0 : Int) : Option (List Int) := some [(a0 / 16777216) % 256, (a0 / 65536) % 256, (a0 / 256) % 256, (a0) % 256]
set_option maxHeartbeats 8000000 in
set_option maxRecDepth 100000 in
theorem word_Put32.calls (a0 : Int) (r : List Int) (w : World) (h : word_Put32.f a0 = some r) :
    Calls Tryd.prog 50 #[.int .u32 a0] w fun e w' => e = .returned (.agg (Ar.cells .u8 4 r)) ∧ Below w.heap.size w w' := by
  have HB := Aside0.mk (Below.refl w.heap.size w)
  have H : (some [(a0 / 16777216) % 256, (a0 / 65536) % 256, (a0 / 256) % 256, (a0) % 256]) = some r := h
  clear h
  obtain rfl := Option.some.inj H
  go_enter Tryd.func50, Tryd.ntmps50
  go_wp2_with (first | ((with_reducible refine gate_dst (N := 2) rfl ?_); (try (refine gate_guard (by rfl) ?_; dsimp only)); refine qE (N := 2) (cs := (Ar.cells .u8 4 (List.replicate 4 0))) (t := 79) ?_; intro gb145 hg w2 hbox hb; have BK145 := Aside0.mk (hbox); have GW145 := Aside0.mk ((qe HB hg : w.heap.size ≤ gb145)); have GE145 := Aside0.mk ((qe HB hg : w.heap.size ≤ gb145)); replace HB := Aside0.mk (below_step (qs HB) hb); clear hb hbox hg) | ((with_reducible refine gate_dst (N := 14) rfl ?_); (try (refine gate_guard (by rfl) ?_; dsimp only)); refine Ar.build_event rfl (D := 14) rfl (T := 79) rfl (k := .u8) (n := 4) (l := [(a0 / 16777216) % 256, (a0 / 65536) % 256, (a0 / 256) % 256, (a0) % 256]) Tryd.underlying79 (by kernel_rfl) (by kernel_rfl) [(0, (a0 / 16777216) % 256), (1, (a0 / 65536) % 256), (2, (a0 / 256) % 256), (3, (a0) % 256)] (by rfl) (by rfl) (by rfl) ?_) | ((with_reducible refine gate_store (t := 79) (p := 2) rfl ?_); refine Ar.store_all_event rfl rfl rfl Tryd.underlying79 (by kernel_rfl) (g := gb145) rfl (z := [(a0 / 16777216) % 256, (a0 / 65536) % 256, (a0 / 256) % 256, (a0) % 256]) qg (qb BK145) ?_; intro w3 hbk_ hg; replace BK145 := Aside0.mk (hbk_); replace HB := Aside0.mk (Below.grown (qs HB) hg ((below_size (qs HB))) (fun _ e_ => by cases e_; exact GE145.out)); clear hbk_ hg))
  refine bodyPost_ret (results_cell_row rfl _ _ gb145 79 (Ar.cells .u8 4 [(a0 / 16777216) % 256, (a0 / 65536) % 256, (a0 / 256) % 256, (a0) % 256]) (0, 0) _ rfl (qb BK145) Tryd.underlying79 rfl qZ) rfl ?_
  exact ⟨by first | rfl | (simp [errW_none, errW_some] <;> rfl) | (simp [*, errW_none, errW_some] <;> rfl), by repeat (first | (with_reducible first | exact HB.out | apply below_alloc | apply pw_below_drewN | apply below_drew1 | refine below_set ?_ GE145.out) | exact HB.out)⟩
def sha_writer_hash.l0 : Nat → List Int → Int → List Int → Option (List Int)
 | 0, _, _, _ => none
 | k + 1, x10, x11, x147000 => if x11 < 8 then (if 0 ≤ x11 then ((word_Put32.f (Ar.get 8 x10 x11)).bind fun t147 => (if 0 ≤ (wrap64 (4 * x11)) then (if (wrap64 (4 * x11)) < 32 then (if (wrap64 (4 * x11)) + 4 ≤ 32 then (sha_writer_hash.l0 k x10 (wrap64 (x11 + 1)) (Ar.putAll 32 x147000 ((wrap64 (4 * x11)) : Int).toNat (Ar.part 4 t147 0 4))) else (none)) else (none)) else (none))) else (none)) else (some x147000)
def sha_writer_hash.f (k : Nat) (a0 : List Int) : Option (List Int) := sha_writer_hash.l0 k a0 0 (List.replicate 32 0)
theorem sha_writer_hash.mono_l : ∀ k, (∀ y0 y1 y2, LeO (sha_writer_hash.l0 k y0 y1 y2) (sha_writer_hash.l0 (k + 1) y0 y1 y2))
 | 0 => fun _ _ _ r h => by simp [sha_writer_hash.l0] at h
 | k + 1 => by
  have ih0 := sha_writer_hash.mono_l k
  ·intro y0 y1 y2
   unfold sha_writer_hash.l0
   repeat' first
   | (with_reducible exact ih0 _ _ _)
   | (with_reducible exact LeO.refl _)
   | (with_reducible exact LeO.none _)
   | (with_reducible refine LeO.ite ?_ ?_)
   | (with_reducible refine LeO.bind ?_ (fun _ => ?_))
   | exact ih0 _ _ _
   | exact LeO.none _
   | refine LeO.ite ?_ ?_
   | refine LeO.bind ?_ (fun _ => ?_)
theorem sha_writer_hash.mono : ∀ a0 k, LeO (sha_writer_hash.f k a0) (sha_writer_hash.f (k + 1) a0) := by
 intro a0 k
 have ih0 := sha_writer_hash.mono_l k
 unfold sha_writer_hash.f
 repeat' first
   | (with_reducible exact ih0 _ _ _)
   | (with_reducible exact LeO.refl _)
   | (with_reducible exact LeO.none _)
   | (with_reducible refine LeO.ite ?_ ?_)
   | (with_reducible refine LeO.bind ?_ (fun _ => ?_))
   | exact ih0 _ _ _
   | exact LeO.none _
   | refine LeO.ite ?_ ?_
   | refine LeO.bind ?_ (fun _ => ?_)
set_option maxHeartbeats 8000000 in
set_option maxRecDepth 100000 in
theorem sha_writer_hash.calls (k : Nat) (g0 : Nat) (a0 : List Int) (u0_ : Value) (m0_ : Int) (r : List Int) (w : World) (hb0 : w.heap[g0]? = some (.cells (Ar.cells .u32 8 a0 ++ #[u0_, .int .u64 m0_]) 61 (0, 0))) (h : sha_writer_hash.f k a0 = some r) :
  Calls Tryd.prog 34 #[.pointer (some ⟨g0, 0, none⟩)] w fun e w' => e = .returned (.agg (Ar.cells .u8 32 r)) ∧ Below w.heap.size w w' := by
 have HB := Aside0.mk (Below.refl w.heap.size w)
 have HG0 := Aside0.mk hb0
 clear hb0
 have H : (sha_writer_hash.l0 k a0 0 (List.replicate 32 0)) = some r := h
 clear h
 have H' := Aside0.mk H
 clear H
 go_enter Tryd.func34, Tryd.ntmps34
 go_wp2_with (first | ((with_reducible refine gate_dst (N := 2) rfl ?_); (try (refine gate_guard (by rfl) ?_; dsimp only)); refine qE (N := 2) (cs := (Ar.cells .u8 32 (List.replicate 32 0))) (t := 26) ?_; intro gb146 hg w2 hbox hb; have BK146 := Aside0.mk (hbox); have GW146 := Aside0.mk ((qe HB hg : w.heap.size ≤ gb146)); have GE146 := Aside0.mk ((qe HB hg : w.heap.size ≤ gb146)); replace HB := Aside0.mk (below_step (qs HB) hb); clear hb hbox hg) | ((with_reducible refine gate_dst (N := 10) rfl ?_); refine Ar.gload_event rfl (T := 33) rfl Tryd.underlying33 rfl (D := Ar.cells .u32 8 a0) (by rw [Ar.cells_size]; kernel_rfl) (A := ⟨g0, 0, none⟩) rfl (Ar.blk_part ((HB.out.block g0 (blk_lt HG0.out)).trans HG0.out) Ar.in_first) ?_))
 go_loopg [11] k (fun kq v11 w' => ∃ (x11_1 : Int) (x147000_1 : List Int), v11 = .int .i64 x11_1 ∧ Aside0 (sha_writer_hash.l0 kq a0 x11_1 x147000_1 = some r) ∧ Aside0 (kq ≤ k) ∧ Aside0 (w'.heap[gb146]? = some (.cells (Ar.cells .u8 32 x147000_1) 26 (0, 0))) ∧ Aside0 (Below w.heap.size w w'))
 case atStart => exact ⟨(0), ((List.replicate 32 0)), (by first | rfl | (simp; done) | (simp [*]; done)), H', ⟨Nat.le_refl _⟩, ⟨by (with_reducible repeat (first | refine blk_drewN ?_ _ | refine blk_drew ?_ | refine blk_alloc ?_ _)); exact BK146.out⟩, ⟨by repeat (first | (with_reducible first | exact HB.out | apply below_alloc | apply pw_below_drewN | apply below_drew1 | refine below_set ?_ GE146.out) | exact HB.out)⟩⟩
 case round =>
  clear H'
  try clear p2
  obtain ⟨x11_1, x147000_1, rfl, HA, HK1, BK146, HB⟩ := hrel
  cases gk with
  | zero => exact absurd HA.out (by simp [sha_writer_hash.l0])
  | succ k1 =>
   have H := HA.out
   clear HA
   simp only [sha_writer_hash.l0] at H
   by_cases c3 : x11_1 < 8
   ·rw [if_pos c3] at H
    have c3b0 : decide (x11_1 < 8) = true := decide_eq_true c3
    clear c3
    by_cases c4 : 0 ≤ x11_1
    ·rw [if_pos c4] at H
     have c4b0 : decide (0 ≤ x11_1) = true := decide_eq_true c4
     clear c4
     replace H := Option.bind_eq_some_iff.mp H
     obtain ⟨t147, A50, H⟩ := H
     replace H : (if 0 ≤ (wrap64 (4 * x11_1)) then (if (wrap64 (4 * x11_1)) < 32 then (if (wrap64 (4 * x11_1)) + 4 ≤ 32 then (sha_writer_hash.l0 k1 a0 (wrap64 (x11_1 + 1)) (Ar.putAll 32 x147000_1 ((wrap64 (4 * x11_1)) : Int).toNat (Ar.part 4 t147 0 4))) else (none)) else (none)) else (none)) = some r := H
     have A5 := Aside0.mk A50
     clear A50
     obtain ⟨ji6, hji6⟩ : ∃ j_ : Int, (wrap64 (4 * x11_1)) = j_ := ⟨_, rfl⟩
     replace H : (if 0 ≤ (ji6) then (if (ji6) < 32 then (if (ji6) + 4 ≤ 32 then (sha_writer_hash.l0 k1 a0 (wrap64 (x11_1 + 1)) (Ar.putAll 32 x147000_1 ((ji6) : Int).toNat (Ar.part 4 t147 0 4))) else (none)) else (none)) else (none)) = some r := by first | (rw [hji6] at H; exact H) | (simp only [hji6] at H ⊢; exact H)
     (try rw [hji6] at A5)
     have hji6w : (IntKind.i64.wrap (4 * x11_1)) = ji6 := (i64_w _).trans hji6
     by_cases c7 : 0 ≤ (ji6)
     ·rw [if_pos c7] at H
      have c7b0 : decide (0 ≤ (ji6)) = true := decide_eq_true c7
      clear c7
      by_cases c8 : (ji6) < 32
      ·rw [if_pos c8] at H
       have c8b0 : decide ((ji6) < 32) = true := decide_eq_true c8
       clear c8
       by_cases c9 : (ji6) + 4 ≤ 32
       ·rw [if_pos c9] at H
        have c9b0 : decide ((ji6) + 4 ≤ 32) = true := decide_eq_true c9
        clear c9
        obtain ⟨y149, hy149⟩ : ∃ y_ : List Int, y_ = (Ar.putAll 32 x147000_1 ((ji6) : Int).toNat (Ar.part 4 t147 0 4)) := ⟨_, rfl⟩
        replace H : (sha_writer_hash.l0 k1 a0 (wrap64 (x11_1 + 1)) y149) = some r := by first | (rw [hy149]; with_reducible exact H) | (have H2_ := (Option.bind_some _ _).symm.trans H; rw [hy149]; with_reducible exact H2_) | (have H2_ := (Option.bind_some _ _).symm.trans H; with_reducible exact H2_) | with_reducible exact H | (rw [hy149]; exact H) | exact H
        have Ny149 := Aside0.mk hy149
        clear hy149
        have H' := Aside0.mk H
        clear H
        try go_wp2_with (first | ((with_reducible refine gate_dst (N := 14) rfl ?_); (try (refine gate_guard (by rfl) ?_; dsimp only)); refine Ar.vidx_event rfl (D := 14) rfl (T := 33) rfl Tryd.underlying33 (by kernel_rfl) Tryd.underlying31 (k := .u32) (n := 8) (l := a0) qg (j := x11_1) qg qo qo ?_) | ((with_reducible refine gate_callee (f := 50) rfl ?_); refine goesL_ (some 16) rfl rfl Tryd.func50 (by kernel_rfl) rfl #[.int .u32 (Ar.get 8 a0 x11_1)] rfl ql ?_; (with_reducible refine (word_Put32.calls (Ar.get 8 a0 x11_1) t147 _ A5.out).mono ?_); rintro e w10 ⟨rfl, hb⟩; refine ⟨_, rfl, ?_⟩; replace BK146 := Aside0.mk (qB BK146 hb); replace HB := Aside0.mk (below_step (qs HB) hb); (try clear hb); (try clear hb2); (try clear hk); (try clear hi)) | ((with_reducible refine gate_dst (N := 5) rfl ?_); (try (refine gate_guard (by rfl) ?_; dsimp only)); refine qE (N := 5) (cs := (Ar.cells .u8 4 (List.replicate 4 0))) (t := 79) ?_; intro gb148 hg w11 hbox hb; have BK148 := Aside0.mk (hbox); have GW148 := Aside0.mk ((qe HB hg : w.heap.size ≤ gb148)); have GE148 := Aside0.mk ((qe HB hg : w.heap.size ≤ gb148)); replace HB := Aside0.mk (below_step (qs HB) hb); have NB146_148 := Aside0.mk ((qu BK146 hg : gb146 ≠ gb148)); have NB148_146 := Aside0.mk ((qw BK146 hg : gb148 ≠ gb146)); replace BK146 := Aside0.mk (qB BK146 hb); clear hb hbox hg) | ((with_reducible refine gate_store (t := 79) (p := 5) rfl ?_); refine Ar.store_all_event rfl rfl rfl Tryd.underlying79 (by kernel_rfl) (g := gb148) rfl (z := t147) qg (qb BK148) ?_; intro w12 hbk_ hg; replace BK146 := Aside0.mk (qG BK146 hg (fun e_ => NB146_148.out (Option.some.inj e_))); replace BK148 := Aside0.mk (hbk_); replace HB := Aside0.mk (Below.grown (qs HB) hg ((below_size (qs HB))) (fun _ e_ => by cases e_; exact GE148.out)); clear hbk_ hg))
        replace BK146 := Aside0.mk (blk_drew BK146.out)
        replace BK148 := Aside0.mk (blk_drew BK148.out)
        replace HB := Aside0.mk (below_drew1 HB.out)
        have cu14 := fun w_ : World => Ar.cutl_run (P := Tryd.prog) (W := w_) (T := 26) Tryd.underlying26 (by kernel_rfl) (g := gb146) (kl := .i64) (l := (ji6)) qo qo
        refine start_ (n := 5) (S := fun w' => True) (ds := []) #[false, false, false, false, false] (by kernel_rfl) rfl rfl trivial (fun hHeld => ?_)
        generalize w12.drew = w13 at BK146 BK148 HB hHeld ⊢
        refine pure_ (i := 0) (N := some 17) (v := ?_) (a' := ?_) #[true, false, false, false, false] rfl rfl (by kernel_rfl) (fun _ _ _ h => h) (Or.inl ⟨by rfl, ?_⟩) ?_ ?_
        rotate_left
        ·intro w'
         go_simp
         with_reducible rfl
        rotate_left
        ·simp only [Act.put, zA_, zB_, zC_, i64_w, i32_w]
         rfl
        refine pure_ (i := 1) (N := some 18) (v := ?_) (a' := ?_) #[true, true, false, false, false] rfl rfl (by kernel_rfl) (fun _ _ _ h => h) (Or.inl ⟨by rfl, ?_⟩) ?_ ?_
        rotate_left
        ·intro w'
         go_simp
         with_reducible rfl
        rotate_left
        ·simp only [Act.put, zA_, zB_, zC_, i64_w, i32_w]
         rfl
        refine pure_ (i := 2) (N := some 19) (v := ?_) (a' := ?_) #[true, true, true, false, false] rfl rfl (by kernel_rfl) (fun _ _ _ h => h) (Or.inl ⟨by rfl, ?_⟩) ?_ ?_
        rotate_left
        ·intro w'
         go_simp
         with_reducible rfl
        rotate_left
        ·simp only [Act.put, zA_, zB_, zC_, i64_w, i32_w]
         rfl
        refine pure_ (i := 3) (N := some 20) (v := ?_) (a' := ?_) #[true, true, true, true, false] rfl rfl (by kernel_rfl) (fun _ _ _ h => h) (Or.inl ⟨by rfl, ?_⟩) ?_ ?_
        rotate_left
        ·intro w'
         go_simp
         with_reducible rfl
        rotate_left
        ·simp only [Act.put, zA_, zB_, zC_, i64_w, i32_w]
         rfl
        refine one_ (i := 4) (N := some 21) #[true, true, true, true, true] rfl rfl (by kernel_rfl) (by decide) (fun K hK => ?_)
        refine Ar.copy_step (by rfl) (dT := 29) (sT := 29) rfl Tryd.underlying29 (by kernel_rfl) (gd := gb146) (gs := gb148) (od := ((ji6) : Int).toNat) (os := 0) qg qg (qb BK146) (qb BK148) 4 (by have h0_ : (0 : Int) ≤ (ji6) := qo; have h2_ : (ji6) + 4 ≤ (32 : Int) := qo; simp only [Nat.min_def]; split <;> omega) (by have h0_ : (0 : Int) ≤ (ji6) := qo; have h2_ : (ji6) + 4 ≤ (32 : Int) := qo; omega) (by decide) ?_; intro w15 hbk_ hg
        rw [← Ny149.out] at hbk_
        replace BK148 := Aside0.mk (qG BK148 hg (fun e_ => NB148_146.out (Option.some.inj e_)))
        replace BK146 := Aside0.mk (hbk_)
        replace HB := Aside0.mk (Below.grown (qs HB) hg ((below_size (qs HB))) (fun _ e_ => by cases e_; exact GE146.out))
        clear hbk_ hg
        refine hK.out _ _ trivial (fun hHeld => ?_)
        clear hK K
        refine norm_ (a' := ?_) ?_ ?_
        rotate_left
        ·show Act.put _ (some 21) _ = _
         simp only [Act.put, zA_, zB_, zC_, i64_w, i32_w]
         rfl
        refine done_ (by kernel_rfl) ?_
        try go_wp2
        go_roundg k1
        case measure => have := HK1.out; omega
        case rel => exact ⟨(wrap64 (x11_1 + 1)), (y149), (by first | rfl | (simp; done) | (simp [*]; done)), H', ⟨by have := HK1.out; omega⟩, ⟨by (with_reducible repeat (first | refine blk_drewN ?_ _ | refine blk_drew ?_ | refine blk_alloc ?_ _)); exact BK146.out⟩, ⟨by repeat (first | (with_reducible first | exact HB.out | apply below_alloc | apply pw_below_drewN | apply below_drew1 | refine below_set ?_ GE146.out | refine below_set ?_ GE148.out) | exact HB.out)⟩⟩
       ·rw [if_neg c9] at H
        exact absurd H (by simp)
      ·rw [if_neg c8] at H
       exact absurd H (by simp)
     ·rw [if_neg c7] at H
      exact absurd H (by simp)
    ·rw [if_neg c4] at H
     exact absurd H (by simp)
   ·rw [if_neg c3] at H
    have c3b0 : decide (x11_1 < 8) = false := decide_eq_false c3
    clear c3
    obtain rfl := Option.some.inj H
    go_wp2_with (first | ((with_reducible refine gate_dst (N := 23) rfl ?_); (try (refine gate_guard (by rfl) ?_; dsimp only)); refine Ar.load_event rfl (D := 23) rfl (T := 26) rfl Tryd.underlying26 (by kernel_rfl) (g := gb146) rfl (qb BK146) ?_) | ((with_reducible refine gate_store (t := 26) (p := 2) rfl ?_); refine Ar.store_all_event rfl rfl rfl Tryd.underlying26 (by kernel_rfl) (g := gb146) rfl (z := x147000_1) qg (qb BK146) ?_; intro w16 hbk_ hg; replace BK146 := Aside0.mk (hbk_); replace HB := Aside0.mk (Below.grown (qs HB) hg ((below_size (qs HB))) (fun _ e_ => by cases e_; exact GE146.out)); clear hbk_ hg))
    refine bodyPost_ret (results_cell_row rfl _ _ gb146 26 (Ar.cells .u8 32 x147000_1) (0, 0) _ rfl (qb BK146) Tryd.underlying26 rfl qZ) rfl ?_
    exact ⟨by first | rfl | (simp [errW_none, errW_some] <;> rfl) | (simp [*, errW_none, errW_some] <;> rfl), by repeat (first | (with_reducible first | exact HB.out | apply below_alloc | apply pw_below_drewN | apply below_drew1 | refine below_set ?_ GE146.out) | exact HB.out)⟩
def sha_Finish.f (k : Nat) (a0_0 l0_1 : List Int) (a0_2 : Int) : Option (List Int × Int) := (pad_Tail.f k l0_1 a0_2).bind fun p => if p.2 = true then (sha_writer_take.f k a0_0 p.1).bind fun q => (sha_writer_hash.f k q.1).bind fun h => some (h, 0) else some ([0, 0, 0, 0, 0, 0, 0, 0, 0, 0, 0, 0, 0, 0, 0, 0, 0, 0, 0, 0, 0, 0, 0, 0, 0, 0, 0, 0, 0, 0, 0, 0], 1)
theorem sha_Finish.mono : ∀ a0 a1 a2 k, LeO (sha_Finish.f k a0 a1 a2) (sha_Finish.f (k + 1) a0 a1 a2) := fun a0 a1 a2 k => by
  unfold sha_Finish.f
  exact LeO.bind (pad_Tail.mono _ _ _) (fun _ => LeO.ite (LeO.bind (sha_writer_take.mono _ _ _) (fun _ => LeO.bind (sha_writer_hash.mono _ _) (fun _ => LeO.refl _))) (LeO.refl _))
set_option maxHeartbeats 8000000 in
set_option maxRecDepth 100000 in
theorem sha_Finish.calls (k : Nat) (a0_0 : List Int) (A0_1 : Option Addr) (c0_1 : Nat) (l0_1 : List Int) (a0_2 : Int) (r1 : List Int) (r2 : Int) (w : World) (hr0_1 : Kd.C (Kd.int .u8) w A0_1 l0_1.length l0_1) (hc0_1 : l0_1.length ≤ c0_1) (h : sha_Finish.f k a0_0 l0_1 a0_2 = some (r1, r2)) :
    Calls Tryd.prog 14 #[.agg (Ar.cells .u32 8 a0_0 ++ #[.slice A0_1 l0_1.length c0_1, .int .u64 a0_2])] w fun e w' => e = .returned (.tuple #[.agg (Ar.cells .u8 32 r1), .int .i64 r2]) ∧ Below w.heap.size w w' := by
  obtain ⟨⟨t, ok⟩, hA, h2⟩ := Option.bind_eq_some_iff.mp h
  have HA := Aside0.mk hA
  have HR := Aside0.mk hr0_1
  have HC := Aside0.mk hc0_1
  have HB := Aside0.mk (Below.refl w.heap.size w)
  clear h hA hr0_1 hc0_1
  cases ok with
  | false =>
    rw [if_neg (by simp)] at h2
    have h2 := Option.some.inj h2
    simp only [Prod.mk.injEq] at h2
    obtain ⟨rfl, rfl⟩ := h2
    go_enter Tryd.func14, Tryd.ntmps14
    go_wp2_with (first | ((with_reducible refine gate_dst (N := 1) rfl ?_); refine qH (N := 1) (cs := (Ar.cells .u32 8 a0_0 ++ #[.slice A0_1 l0_1.length c0_1, .int .u64 a0_2])) (t := 36) ?_; intro g1 hg w1 hbox hb; have B1 := Aside0.mk (hbox); have GEg1 := Aside0.mk ((by rw [hg]; exact below_size HB.out : w.heap.size ≤ g1)); replace HB := Aside0.mk (below_step HB.out hb); clear hb hg hbox) | ((with_reducible refine gate_dst (N := 2) rfl ?_); refine box_event ?hg (N := 2) ?hd (cs := (Ar.cells .u8 32 (List.replicate 32 0))) (t := 26) ?hr ?_; (case hd => rfl); (case hg => rfl); (case hr => first | exact Ar.alloc_run rfl (by kernel_rfl) | (go_simp; done) | (go_simp; rfl)); intro g2 hg w2 hbox hb; replace B1 := Aside0.mk (blk_below B1.out hb); have B2 := Aside0.mk (hbox); have GEg2 := Aside0.mk ((by rw [hg]; exact below_size HB.out : w.heap.size ≤ g2)); replace HB := Aside0.mk (below_step HB.out hb); clear hb hg hbox) | ((with_reducible refine gate_dst (N := 9) rfl ?_); refine Ar.cload_event rfl (T := 29) rfl Tryd.underlying29 rfl (A := ⟨g1, 8, none⟩) rfl (v := .slice A0_1 l0_1.length c0_1) (Ar.blk_at B1.out (Ar.wC_8 _ _ _)) ?_) | ((with_reducible refine gate_dst (N := 11) rfl ?_); refine Ar.cload_event rfl (T := 34) rfl Tryd.underlying34 rfl (A := ⟨g1, 9, none⟩) rfl (v := .int .u64 a0_2) (Ar.blk_at B1.out (Ar.wC_9 _ _ _)) ?_) | ((with_reducible refine gate_callee (f := 32) rfl ?_); refine goesL_ (some 12) rfl rfl Tryd.func32 (by kernel_rfl) rfl #[.slice A0_1 l0_1.length c0_1, .int .u64 a0_2] rfl (by (try simp only [List.map_toArray, List.map_cons, List.map_nil]); first | done | rfl) ?_; refine (pad_Tail.calls k A0_1 c0_1 l0_1 a0_2 t false _ (Kd.C_below HR.out HB.out) HC.out HA.out).mono ?_; rintro e w3 ⟨v3, rfl, ho, hb⟩; refine ⟨_, rfl, ?_⟩; replace B1 := Aside0.mk (blk_below B1.out hb); replace B2 := Aside0.mk (blk_below B2.out hb); replace HB := Aside0.mk (below_step HB.out hb); clear hb ho) | ((with_reducible refine gate_dst (N := 17) rfl ?_); refine Ar.build_event rfl (D := 17) rfl (T := 26) rfl (k := .u8) (n := 32) (l := [0, 0, 0, 0, 0, 0, 0, 0, 0, 0, 0, 0, 0, 0, 0, 0, 0, 0, 0, 0, 0, 0, 0, 0, 0, 0, 0, 0, 0, 0, 0, 0]) Tryd.underlying26 (by kernel_rfl) (by kernel_rfl) [] (by rfl) (by rfl) (by rfl) ?_) | ((with_reducible refine gate_store (t := 26) (p := 2) rfl ?_); refine Ar.store_all_event rfl rfl rfl Tryd.underlying26 (by kernel_rfl) (g := g2) rfl (z := [0, 0, 0, 0, 0, 0, 0, 0, 0, 0, 0, 0, 0, 0, 0, 0, 0, 0, 0, 0, 0, 0, 0, 0, 0, 0, 0, 0, 0, 0, 0, 0]) qg B2.out ?_; intro w5 hbk_ hg; replace HB := Aside0.mk (Below.grown HB.out hg (below_size HB.out) (fun _ e_ => by cases e_; exact GEg2.out)); replace B2 := Aside0.mk (hbk_); clear hbk_ hg))
    refine bodyPost_ret (results_ct rfl _ _ g2 26 (Ar.cells .u8 32 [0, 0, 0, 0, 0, 0, 0, 0, 0, 0, 0, 0, 0, 0, 0, 0, 0, 0, 0, 0, 0, 0, 0, 0, 0, 0, 0, 0, 0, 0, 0, 0]) (0, 0) _ rfl B2.out Tryd.underlying26 rfl (by rw [Ar.cells_size]; kernel_rfl)) rfl ?_
    exact ⟨rfl, HB.out⟩
  | true =>
    rw [if_pos rfl] at h2
    obtain ⟨⟨s, rs⟩, hT, h3⟩ := Option.bind_eq_some_iff.mp h2
    obtain ⟨hh, hH, h4⟩ := Option.bind_eq_some_iff.mp h3
    have h4 := Option.some.inj h4
    simp only [Prod.mk.injEq] at h4
    obtain ⟨rfl, rfl⟩ := h4
    have HT := Aside0.mk hT
    have HH := Aside0.mk hH
    clear h2 h3 hT hH
    go_enter Tryd.func14, Tryd.ntmps14
    go_wp2_with (first | ((with_reducible refine gate_dst (N := 1) rfl ?_); refine qH (N := 1) (cs := (Ar.cells .u32 8 a0_0 ++ #[.slice A0_1 l0_1.length c0_1, .int .u64 a0_2])) (t := 36) ?_; intro g1 hg w1 hbox hb; have B1 := Aside0.mk (hbox); have GEg1 := Aside0.mk ((by rw [hg]; exact below_size HB.out : w.heap.size ≤ g1)); replace HB := Aside0.mk (below_step HB.out hb); clear hb hg hbox) | ((with_reducible refine gate_dst (N := 2) rfl ?_); refine box_event ?hg (N := 2) ?hd (cs := (Ar.cells .u8 32 (List.replicate 32 0))) (t := 26) ?hr ?_; (case hd => rfl); (case hg => rfl); (case hr => first | exact Ar.alloc_run rfl (by kernel_rfl) | (go_simp; done) | (go_simp; rfl)); intro g2 hg w2 hbox hb; replace B1 := Aside0.mk (blk_below B1.out hb); have B2 := Aside0.mk (hbox); have GEg2 := Aside0.mk ((by rw [hg]; exact below_size HB.out : w.heap.size ≤ g2)); replace HB := Aside0.mk (below_step HB.out hb); clear hb hg hbox) | ((with_reducible refine gate_dst (N := 9) rfl ?_); refine Ar.cload_event rfl (T := 29) rfl Tryd.underlying29 rfl (A := ⟨g1, 8, none⟩) rfl (v := .slice A0_1 l0_1.length c0_1) (Ar.blk_at B1.out (Ar.wC_8 _ _ _)) ?_) | ((with_reducible refine gate_dst (N := 11) rfl ?_); refine Ar.cload_event rfl (T := 34) rfl Tryd.underlying34 rfl (A := ⟨g1, 9, none⟩) rfl (v := .int .u64 a0_2) (Ar.blk_at B1.out (Ar.wC_9 _ _ _)) ?_) | ((with_reducible refine gate_callee (f := 32) rfl ?_); refine goesL_ (some 12) rfl rfl Tryd.func32 (by kernel_rfl) rfl #[.slice A0_1 l0_1.length c0_1, .int .u64 a0_2] rfl (by (try simp only [List.map_toArray, List.map_cons, List.map_nil]); first | done | rfl) ?_; refine (pad_Tail.calls k A0_1 c0_1 l0_1 a0_2 t true _ (Kd.C_below HR.out HB.out) HC.out HA.out).mono ?_; rintro e w3 ⟨v3, rfl, ho, hb⟩; refine ⟨_, rfl, ?_⟩; replace B1 := Aside0.mk (blk_below B1.out hb); replace B2 := Aside0.mk (blk_below B2.out hb); have HV := Aside0.mk ((Kd.V_mono (Kd.R_V (Kd.R_bound ho)) (fun k_ h_ => Nat.le_trans (below_size HB.out) h_.2.1) : Kd.V (Kd.int .u8) 5 w3 w.heap.size (fun k_ => w.heap.size ≤ k_) v3 t)); replace HB := Aside0.mk (below_step HB.out hb); clear hb ho; obtain ⟨A3, c3, e3_⟩ := Kd.V_slice HV.out; subst e3_) | ((with_reducible refine gate_dst (N := 18) rfl ?_); refine Ar.gload_event rfl (T := 36) rfl Tryd.underlying36 rfl (D := (Ar.cells .u32 8 a0_0 ++ #[.slice A0_1 l0_1.length c0_1, .int .u64 a0_2])) (by simp only [Array.size_append, Ar.cells_size, List.size_toArray, List.length_cons, List.length_nil]; kernel_rfl) (A := ⟨g1, 0, none⟩) rfl (Ar.blk_part B1.out Ar.in_whole) ?_) | ((with_reducible refine gate_dst (N := 19) rfl ?_); refine Ar.gbuild_event rfl (T := 61) rfl (D := (Ar.cells .u32 8 a0_0 ++ #[.slice A0_1 l0_1.length c0_1, .int .u64 a0_2])) (by simp only [List.map_toArray, List.map_cons, List.map_nil]; exact fatBuild61_0 _ (by simp [Ar.cells_size])) ?_) | ((with_reducible refine gate_dst (N := 6) rfl ?_); refine box_event ?hg (N := 6) ?hd (cs := (Ar.wC (List.replicate 8 0) (.slice none 0 0) 0)) (t := 61) ?hr ?_; (case hd => rfl); (case hg => rfl); (case hr => exact Ar.galloc_run rfl (by kernel_rfl)); intro gx hg w4 hbox hb; replace HV := Aside0.mk ((Kd.V_mono (Kd.V_grown (Kd.V_bound HV.out) (grown_of_below hb none) (fun _ _ e_ => by cases e_)) (fun k_ h_ => (by rw [hg]; exact Nat.ne_of_lt h_.2 : k_ ≠ gx)) : Kd.V (Kd.int .u8) 5 w4 w4.heap.size (fun k_ => k_ ≠ gx) (.slice A3 t.length c3) t)); have N2X := Aside0.mk ((by rw [hg]; exact Nat.ne_of_lt (blk_lt B2.out) : g2 ≠ gx)); replace B2 := Aside0.mk (blk_below B2.out hb); have GEgx := Aside0.mk ((by rw [hg]; exact below_size HB.out : w.heap.size ≤ gx)); replace HB := Aside0.mk (below_step HB.out hb); have BX := Aside0.mk (hbox); clear hb hg hbox B1) | ((with_reducible refine gate_store (t := 61) (p := 6) rfl ?_); refine Ar.gstore_event rfl rfl rfl (D := (Ar.wC a0_0 (.slice A0_1 l0_1.length c0_1) a0_2)) (by simp only [Array.size_append, Ar.cells_size, List.size_toArray, List.length_cons, List.length_nil]; kernel_rfl) (g := gx) rfl qg BX.out (by simp [Ar.cells_size]) (by repeat (first | (with_reducible refine Ar.all_app ?_ ?_) | (with_reducible exact Ar.cells_one _ _ _) | (focus (simp [Value.oneCell']; done)) | rfl)) ?_; intro w5 hbk_ hg; replace B2 := Aside0.mk (blk_grown B2.out hg (fun e_ => N2X.out (Option.some.inj e_))); replace HV := Aside0.mk (Kd.V_grown HV.out hg (fun k_ hk_ e_ => hk_ (Option.some.inj e_))); replace HB := Aside0.mk (Below.grown HB.out hg (below_size HB.out) (fun _ e_ => by cases e_; exact GEgx.out)); replace BX := Aside0.mk (hbk_); clear hbk_ hg) | ((with_reducible refine gate_callee (f := 33) rfl ?_); refine goesL_ (some 21) rfl rfl Tryd.func33 (by kernel_rfl) rfl #[.pointer (some ⟨gx, 0, none⟩), .slice A3 t.length c3] rfl (by (try simp only [List.map_toArray, List.map_cons, List.map_nil]); first | done | rfl) ?_; refine (sha_writer_take.calls k (fun k_ => k_ ≠ gx) A3 c3 t gx a0_0 (.slice A0_1 l0_1.length c0_1) a0_2 s rs _ HV.out BX.out (fun _ h_ => h_) HT.out).mono ?_; rintro e w6 ⟨v6, rfl, hv, hbk_, hg⟩; refine ⟨_, rfl, ?_⟩; replace B2 := Aside0.mk (blk_grown B2.out hg (fun e_ => N2X.out (Option.some.inj e_))); replace HB := Aside0.mk (Below.grown HB.out hg (below_size HB.out) (fun _ e_ => by cases e_; exact GEgx.out)); replace BX := Aside0.mk (hbk_); clear hbk_ hg hv HV) | ((with_reducible refine gate_callee (f := 34) rfl ?_); refine goesL_ (some 22) rfl rfl Tryd.func34 (by kernel_rfl) rfl #[.pointer (some ⟨gx, 0, none⟩)] rfl (by (try simp only [List.map_toArray, List.map_cons, List.map_nil]); first | done | rfl) ?_; refine (sha_writer_hash.calls k gx s (.slice A0_1 l0_1.length c0_1) a0_2 hh _ BX.out HH.out).mono ?_; rintro e w7 ⟨rfl, hb⟩; refine ⟨_, rfl, ?_⟩; replace B2 := Aside0.mk (blk_below B2.out hb); replace HB := Aside0.mk (below_step HB.out hb); clear hb) | ((with_reducible refine gate_store (t := 26) (p := 2) rfl ?_); refine Ar.store_all_event rfl rfl rfl Tryd.underlying26 (by kernel_rfl) (g := g2) rfl (z := hh) qg B2.out ?_; intro w8 hbk_ hg; replace HB := Aside0.mk (Below.grown HB.out hg (below_size HB.out) (fun _ e_ => by cases e_; exact GEg2.out)); replace B2 := Aside0.mk (hbk_); clear hbk_ hg))
    refine bodyPost_ret (results_ct rfl _ _ g2 26 (Ar.cells .u8 32 hh) (0, 0) _ rfl B2.out Tryd.underlying26 rfl (by rw [Ar.cells_size]; kernel_rfl)) rfl ?_
    exact ⟨rfl, HB.out⟩
end Go.Proofs.YtkcdcbiobkcpmaaDoor.PA
end
