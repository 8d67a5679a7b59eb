/- Proved here: LawShaWrites, the statement of the row that this text's last part names, and all that it rests on: words on walks, contracts of the program's functions, plain lemmas. Conditions: none but those of the given row. (part 5 of 7) -/
import Derived.Test.YtkcdcbiobkcpmaaDoorZW3
section
namespace Go.Proofs.YtkcdcbiobkcpmaaDoor.PA
open Go.RowKit Go.Proofs.YtkcdcbiobkcpmaaDoorW.PrintWords Go.Proofs.YtkcdcbiobkcpmaaDoorW.PrintLast Go.Proofs.YtkcdcbiobkcpmaaDoorW.PrintMore
attribute [local go_sem] max2_int min2_int max_two min_two max_three min_three max_four min_four
set_option linter.unusedVariables false
set_option linter.unusedSimpArgs false
theorem drawlotref02_Cut_info : (Tryd.prog.info? 78).map (fun i => (i.zero, i.size, i.bytes)) = some (some (.agg (Ar.cells .u8 64 (List.replicate 64 0))), 64, 64) := by kernel_rfl
def drawlotref02_Cut.l0 : Nat → List Int → List (List Int) → Int → Option ((List (List Int)) × List Int)
  | 0, _, _, _ => none
  | k + 1, b, out, t => if 0 ≤ t ∧ t ≤ (b.length : Int) ∧ (b.length : Int) < 4611686018427387904 then (if t + 64 ≤ (b.length : Int) then (if out.length < 1048576 then drawlotref02_Cut.l0 k b (out ++ [(b.drop t.toNat).take 64]) (t + 64) else none) else some (out, b.drop t.toNat)) else none
def drawlotref02_Cut.f (k : Nat) (l0 : List Int) : Option ((List (List Int)) × List Int) := drawlotref02_Cut.l0 k l0 [] 0
theorem drawlotref02_Cut.mono_l : ∀ k b out t, LeO (drawlotref02_Cut.l0 k b out t) (drawlotref02_Cut.l0 (k + 1) b out t)
  | 0, _, _, _ => fun r h => by simp [drawlotref02_Cut.l0] at h
  | k + 1, _, _, _ => by
    unfold drawlotref02_Cut.l0
    exact LeO.ite (LeO.ite (LeO.ite (drawlotref02_Cut.mono_l k _ _ _) (LeO.none _)) (LeO.refl _)) (LeO.none _)
theorem drawlotref02_Cut.mono : ∀ a0 k, LeO (drawlotref02_Cut.f k a0) (drawlotref02_Cut.f (k + 1) a0) := fun a0 k => drawlotref02_Cut.mono_l k a0 [] 0
set_option maxHeartbeats 8000000 in
set_option maxRecDepth 100000 in
theorem drawlotref02_Cut.calls (k : Nat) (P0_ : Nat → Prop) (A0 : Option Addr) (c0 : Nat) (l0 : List Int) (r1 : List (List Int)) (r2 : List Int) (w : World) (hs0 : Kd.V (Kd.int .u8) 5 w w.heap.size (fun k_ => P0_ k_) (.slice A0 l0.length c0) l0) (h : drawlotref02_Cut.f k l0 = some (r1, r2)) :
    Calls Tryd.prog 26 #[.slice A0 l0.length c0] w fun e w' => ∃ v0_ v1_ : Value, e = .returned (.tuple #[v0_, v1_]) ∧ Kd.R (Ar.K .u8 64) 78 w' w.heap.size (fun _ => True) v0_ r1 ∧ Kd.V (Kd.int .u8) 5 w' w.heap.size (fun k_ => (P0_ k_ ∨ w.heap.size ≤ k_) ∧ some k_ ≠ (v0_ : Value).ownBlock) v1_ r2 ∧ Below w.heap.size w w' := by
  have hu36 := Tryd.underlying78
  obtain ⟨i5, hi5, _, hsz5, _⟩ := info_parts info5
  have HV := Aside0.mk (Kd.V_bound hs0)
  have HB := Aside0.mk (Below.refl w.heap.size w)
  have H' := Aside0.mk (show drawlotref02_Cut.l0 k l0 [] 0 = some (r1, r2) from h)
  clear hs0 h
  go_enter Tryd.func26, Tryd.ntmps26
  go_wp2
  go_loopg [4, 5] k (fun kq v4 v5 w' => ∃ (out : List (List Int)) (t : Int), v5 = .int .i64 t ∧ Aside0 (drawlotref02_Cut.l0 kq l0 out t = some (r1, r2)) ∧ Aside0 (kq ≤ k) ∧ Aside0 (Kd.R (Ar.K .u8 64) 78 w' w.heap.size (fun _ => True) v4 out) ∧ Aside0 (Below w.heap.size w w'))
  case atStart => exact ⟨[], 0, rfl, H', ⟨Nat.le_refl _⟩, ⟨Kd.R_nil _ _ _ _ _⟩, HB⟩
  case round =>
    clear H' HB
    obtain ⟨out, t, rfl, HA, HK1, HO, HB⟩ := hrel
    cases gk with
    | zero => exact absurd HA.out (by simp [drawlotref02_Cut.l0])
    | succ k1 =>
      have H := HA.out
      clear HA
      simp only [drawlotref02_Cut.l0] at H
      obtain ⟨A2, c2, rfl⟩ := Kd.R_slice HO.out
      by_cases c0_ : 0 ≤ t ∧ t ≤ (l0.length : Int) ∧ (l0.length : Int) < 4611686018427387904
      · rw [if_pos c0_] at H
        have hw1 : wrap64 (t + 64) = t + 64 := by unfold wrap64; omega
        have hw2 : IntKind.i64.wrap (t + 64) = t + 64 := (i64_w _).trans hw1
        have C0 := Aside0.mk c0_
        clear c0_
        by_cases c : t + 64 ≤ (l0.length : Int)
        · rw [if_pos c] at H
          by_cases d : out.length < 1048576
          · rw [if_pos d] at H
            have H' := Aside0.mk H
            have D := Aside0.mk d
            have cb0 : decide (t + 64 ≤ (l0.length : Int)) = true := decide_eq_true c
            have CC := Aside0.mk c
            clear H d c
            go_wp2_with (first | ((with_reducible refine gate_dst (N := 6) rfl ?_); refine box_event ?hg (N := 6) ?hd (cs := (Ar.cells .u8 64 (List.replicate 64 0))) (t := 78) ?hr ?_; (case hd => rfl); (case hg => rfl); (case hr => exact Ar.alloc_run rfl (by kernel_rfl)); intro g hg w4 hbox hb; have BK := Aside0.mk hbox; have GE := Aside0.mk ((by rw [hg]; exact below_size (qs HB)) : w.heap.size ≤ g); replace HO := Aside0.mk (show Kd.R (Ar.K .u8 64) 78 w4 w.heap.size (fun k_ => k_ < g) (.slice A2 out.length c2) out by rw [hg]; exact Kd.R_below (Kd.R_mono (Kd.R_bound (qr HO)) (fun _ hk => hk.2.2.1)) hb); replace HB := Aside0.mk (below_step (qs HB) hb); clear hbox hb hg))
            clear cb0
            go_loopg [7] 64 (fun kq v7 w' => ∃ (i : Nat) (y : List Int), v7 = .int .i64 (i : Int) ∧ Aside0 (i + kq = 64) ∧ Aside0 (∀ j : Nat, j < i → Ar.get 64 y j = rd l0 (t + j)) ∧ Aside0 (w'.heap[g]? = some (.cells (Ar.cells .u8 64 y) 78 (0, 0))) ∧ Aside0 (Kd.R (Ar.K .u8 64) 78 w' w.heap.size (fun k_ => k_ < g) (.slice A2 out.length c2) out) ∧ Aside0 (Below w.heap.size w w'))
            case atStart => exact ⟨0, List.replicate 64 0, rfl, ⟨rfl⟩, ⟨fun j hj => by omega⟩, BK, HO, HB⟩
            case round =>
              clear BK HO HB
              obtain ⟨i, y, rfl, HI, HY, BK, HO, HB⟩ := hrel
              cases gk with
              | zero =>
                have ci : decide ((i : Int) < 64) = false := decide_eq_false (by have := HI.out; omega)
                have ci2 : decide (i < 64) = false := decide_eq_false (by have := HI.out; omega)
                have HX := Aside0.mk (Ar.cells_of_get (k := .u8) (n := 64) (y := y) (z := (l0.drop t.toNat).take 64) (fun j hj => by
                  rw [HY.out j (by have := HI.out; omega)]
                  exact (Ar.get_drop_take (by have := CC.out; have := C0.out; omega) C0.out.1 hj).symm))
                rw [HX.out] at BK
                have HO' := Aside0.mk (Kd.R_mono HO.out (fun _ _ => trivial) : Kd.R (Ar.K .u8 64) 78 wr w.heap.size (fun _ => True) (.slice A2 out.length c2) out)
                clear HO HY HX HI
                have HO := HO'
                clear HO'
                go_wp2_with (first | ((with_reducible refine gate_dst (N := 26) rfl ?_); refine Ar.load_event rfl (D := 26) rfl (T := 78) rfl Tryd.underlying78 (by kernel_rfl) (g := g) rfl (qb BK) ?_) | ((with_reducible refine gate_dst (N := 27) rfl ?_); refine Kd.event_run rfl (Ar.one_lit_run (k := .u8) (n := 64) (l := (l0.drop t.toNat).take 64) rfl Tryd.underlying53 drawlotref02_Cut_info (by omega) (by omega) rfl) ?_) | ((with_reducible refine gate_builtin (b := .append) (xs := #[.tmp 25, .tmp 27]) rfl ?_); at_builtin; refine Kd.R_append (Ar.K .u8 64) (w0 := w) w.heap.size rfl (.tmp 25) (.tmp 27) 53 78 (.agg (Ar.cells .u8 64 (List.replicate 64 0))) 64 rfl Tryd.underlying53 drawlotref02_Cut_info (by rw [show (Value.agg (Ar.cells .u8 64 (List.replicate 64 0))).cells = Ar.cells .u8 64 (List.replicate 64 0) from rfl, Ar.cells_size]; rfl) (by decide) (by omega) (.slice A2 out.length c2) out ((l0.drop t.toNat).take 64) (Ar.cells .u8 64 ((l0.drop t.toNat).take 64)).toList (fun _ => True) (fun _ => False) rfl rfl ?aP (fun _ hk => hk.elim) ?aF ?aO ?aB ?aS ?aL ?_; (case aP => exact rfl); (case aB => exact (qs HB)); (case aF => exact (fun _ _ => trivial)); (case aO => exact (qr HO)); (case aS => exact (below_size (qs HB))); (case aL => have := D.out; omega); intro v1 w9 ho hb hg hat; replace HB := Aside0.mk hb; replace HO := Aside0.mk ho; clear ho hb hg hat))
                go_roundg k1
                case measure => have := HK1.out; omega
                case rel => exact ⟨_, _, rfl, H', ⟨by have := HK1.out; omega⟩, HO, HB⟩
              | succ m =>
                have ci : decide ((i : Int) < 64) = true := decide_eq_true (by have := HI.out; omega)
                have ci2 : decide (i < 64) = true := decide_eq_true (by have := HI.out; omega)
                have I1 := Aside0.mk (show (i : Int) < (64 : Nat) by have := HI.out; omega)
                have hw3 : wrap64 (t + i) = t + i := by have := HI.out; have := C0.out; unfold wrap64; omega
                have hw4 : IntKind.i64.wrap (t + i) = t + i := (i64_w _).trans hw3
                have hw5 : wrap64 ((i : Int) + 1) = ((i + 1 : Nat) : Int) := by have := HI.out; unfold wrap64; omega
                have hw6 : IntKind.i64.wrap ((i : Int) + 1) = ((i + 1 : Nat) : Int) := (i64_w _).trans hw5
                have hp : 0 ≤ t + (i : Int) := by have := C0.out; omega
                have hq : t + (i : Int) < (l0.length : Int) := by have := CC.out; have := I1.out; omega
                obtain ⟨ad, e, hx⟩ := Kd.at_int (Kd.F_now (Kd.V_at (Kd.V_below HV.out HB.out)).2.2) (t + (i : Int)) hp hq
                subst e
                have p1 := eq_true hp
                have q1 := eq_true hq
                clear hp hq
                go_wp2_with (first | ((with_reducible refine gate_dst (N := 24) rfl ?_); refine Ar.idx_event rfl (D := 24) rfl (T := 78) (n := 64) rfl Tryd.underlying78 (by kernel_rfl) (g := g) rfl (j := (i : Int)) qg (Int.natCast_nonneg _) I1.out ?_) | ((with_reducible refine gate_store (t := 5) (p := 24) rfl ?_); refine Ar.put_event rfl rfl rfl (by kernel_rfl) (g := g) (j := (i : Int)) rfl (z := rd l0 (t + (i : Int))) qg (qb BK) (Int.natCast_nonneg _) I1.out ?_; intro w8 hbk_ hg; replace BK := Aside0.mk hbk_; replace HB := Aside0.mk (Below.grown (qs HB) hg (below_size (qs HB)) (fun _ e_ => by cases e_; exact GE.out)); replace HO := Aside0.mk (Kd.R_grown (qr HO) hg (fun k_ hk e_ => by cases e_; exact absurd hk (Nat.lt_irrefl _))); clear hbk_ hg))
                go_roundg m
                case measure => omega
                case rel => exact ⟨i + 1, _, rfl, ⟨by have := HI.out; omega⟩, ⟨fun j hj => by
                  rw [Ar.get_set (by have := I1.out; omega)]
                  by_cases e : j = i
                  · subst e; rw [if_pos rfl]
                  · rw [if_neg e]; exact HY.out j (by omega)⟩, BK, HO, HB⟩
          · rw [if_neg d] at H
            exact absurd H (by simp)
        · rw [if_neg c] at H
          have cb0 : decide (t + 64 ≤ (l0.length : Int)) = false := decide_eq_false c
          simp only [Option.some.injEq, Prod.mk.injEq] at H
          obtain ⟨rfl, rfl⟩ := H
          obtain ⟨A3, hcut, hV3⟩ := Ar.cut_V (P := Tryd.prog) Tryd.underlying29 hi5 hsz5 HV.out t C0.out.1 C0.out.2.1
          clear c
          go_wp2
          refine start_ (n := 6) (S := fun w' => True) (ds := []) #[false, false, false, false, false, false] (by kernel_rfl) rfl rfl trivial (fun hHeld => ?_)
          refine pure_ (i := 0) (N := some 31) (v := ?_) (a' := ?_) #[true, false, false, false, false, false] rfl rfl (by kernel_rfl) (fun _ _ _ h => h) (Or.inl ⟨by rfl, ?_⟩) ?_ ?_
          rotate_left
          · intro w'
            go_simp
            with_reducible rfl
          rotate_left
          · simp only [Act.put, zA_, zB_, zC_, i64_w, i32_w]
            rfl
          refine pure_ (i := 1) (N := some 32) (v := ?_) (a' := ?_) #[true, true, false, false, false, false] rfl rfl (by kernel_rfl) (fun _ _ _ h => h) (Or.inl ⟨by rfl, ?_⟩) ?_ ?_
          rotate_left
          · intro w'
            go_simp
            with_reducible rfl
          rotate_left
          · simp only [Act.put, zA_, zB_, zC_, i64_w, i32_w]
            rfl
          refine pure_ (i := 2) (N := some 33) (v := ?_) (a' := ?_) #[true, true, true, false, false, false] rfl rfl (by kernel_rfl) (fun _ _ _ h => h) (Or.inl ⟨by rfl, ?_⟩) ?_ ?_
          rotate_left
          · intro w'
            go_simp
            with_reducible rfl
          rotate_left
          · simp only [Act.put, zA_, zB_, zC_, i64_w, i32_w]
            rfl
          refine pure_ (i := 3) (N := some 34) (v := ?_) (a' := ?_) #[true, true, true, true, false, false] rfl rfl (by kernel_rfl) (fun _ _ _ h => h) (Or.inl ⟨by rfl, ?_⟩) ?_ ?_
          rotate_left
          · intro w'
            go_simp
            with_reducible rfl
          rotate_left
          · simp only [Act.put, zA_, zB_, zC_, i64_w, i32_w]
            rfl
          refine pure_ (i := 4) (N := some 2) (v := ?_) (a' := ?_) #[true, true, true, true, true, false] rfl rfl (by kernel_rfl) (fun _ _ _ h => h) (Or.inl ⟨by rfl, ?_⟩) ?_ ?_
          rotate_left
          · intro w'
            go_simp
            with_reducible rfl
          rotate_left
          · simp only [Act.put, zA_, zB_, zC_, i64_w, i32_w]
            rfl
          refine pure_ (i := 5) (N := some 3) (v := ?_) (a' := ?_) #[true, true, true, true, true, true] rfl rfl (by kernel_rfl) (fun _ _ _ h => h) (Or.inl ⟨by rfl, ?_⟩) ?_ ?_
          rotate_left
          · intro w'
            go_simp
            with_reducible rfl
          rotate_left
          · simp only [Act.put, zA_, zB_, zC_, i64_w, i32_w]
            rfl
          refine done_ (by kernel_rfl) ?_
          try go_wp2
          go_ret2
          have hV4 : Kd.V (Kd.int .u8) 5 w w.heap.size (fun k_ => P0_ k_ ∧ k_ < w.heap.size) (.slice A3 (l0.length - t.toNat) (c0 - t.toNat)) (l0.drop t.toNat) := by rw [← List.length_drop]; exact hV3
          refine ⟨.slice A2 out.length c2, .slice A3 (l0.length - t.toNat) (c0 - t.toNat), rfl, by (with_reducible repeat (first | apply Kd.R_alloc | apply Kd.R_drewN | apply Kd.R_drew)); exact HO.out, ?_, by repeat (first | (with_reducible first | exact HB.out | apply below_alloc | apply pw_below_drewN | apply below_drew1) | exact HB.out)⟩
          refine Kd.V_mono (Kd.V_below hV4 (qs HB)) (fun k_ hk => ⟨.inl hk.1, fun e_ => ?_⟩)
          have h2 := Kd.R_base HO.out k_ e_.symm
          have := hk.2
          omega
      · rw [if_neg c0_] at H
        exact absurd H (by simp)
def drawlotref01_Put64.l0 : Nat → Int → Int → List Int → Option (List Int)
 | 0, _, _, _ => none
 | k + 1, x0, x4, x289000 => if x4 ≥ 0 then (if 0 ≤ x4 then (if x4 < 8 then (drawlotref01_Put64.l0 k (IntKind.u64.wrap (Int.tdiv x0 256)) (wrap64 (x4 - 1)) (Ar.set 8 x289000 x4 ((Int.tmod x0 256) % 256))) else (none)) else (none)) else (some x289000)
def drawlotref01_Put64.f (k : Nat) (a0 : Int) : Option (List Int) := drawlotref01_Put64.l0 k a0 7 (List.replicate 8 0)
theorem drawlotref01_Put64.mono_l : ∀ k, (∀ y0 y1 y2, LeO (drawlotref01_Put64.l0 k y0 y1 y2) (drawlotref01_Put64.l0 (k + 1) y0 y1 y2))
 | 0 => fun _ _ _ r h => by simp [drawlotref01_Put64.l0] at h
 | k + 1 => by
  have ih0 := drawlotref01_Put64.mono_l k
  ·intro y0 y1 y2
   unfold drawlotref01_Put64.l0
   repeat' first
   | (with_reducible exact ih0 _ _ _)
   | (with_reducible exact LeO.refl _)
   | (with_reducible exact LeO.none _)
   | (with_reducible refine LeO.ite ?_ ?_)
   | (with_reducible refine LeO.bind ?_ (fun _ => ?_))
   | exact ih0 _ _ _
   | exact LeO.none _
   | refine LeO.ite ?_ ?_
   | refine LeO.bind ?_ (fun _ => ?_)
theorem drawlotref01_Put64.mono : ∀ a0 k, LeO (drawlotref01_Put64.f k a0) (drawlotref01_Put64.f (k + 1) a0) := by
 intro a0 k
 have ih0 := drawlotref01_Put64.mono_l k
 unfold drawlotref01_Put64.f
 repeat' first
   | (with_reducible exact ih0 _ _ _)
   | (with_reducible exact LeO.refl _)
   | (with_reducible exact LeO.none _)
   | (with_reducible refine LeO.ite ?_ ?_)
   | (with_reducible refine LeO.bind ?_ (fun _ => ?_))
   | exact ih0 _ _ _
   | exact LeO.none _
   | refine LeO.ite ?_ ?_
   | refine LeO.bind ?_ (fun _ => ?_)
set_option maxHeartbeats 8000000 in
set_option maxRecDepth 100000 in
theorem drawlotref01_Put64.calls (k : Nat) (a0 : Int) (r : List Int) (w : World) (h : drawlotref01_Put64.f k a0 = some r) :
  Calls Tryd.prog 51 #[.int .u64 a0] w fun e w' => e = .returned (.agg (Ar.cells .u8 8 r)) ∧ Below w.heap.size w w' := by
 have HB := Aside0.mk (Below.refl w.heap.size w)
 have H : (drawlotref01_Put64.l0 k a0 7 (List.replicate 8 0)) = some r := h
 clear h
 have H' := Aside0.mk H
 clear H
 go_enter Tryd.func51, Tryd.ntmps51
 go_wp2_with (first | ((with_reducible refine gate_dst (N := 2) rfl ?_); (try (refine gate_guard (by rfl) ?_; dsimp only)); refine qE (N := 2) (cs := (Ar.cells .u8 8 (List.replicate 8 0))) (t := 84) ?_; intro gb287 hg w2 hbox hb; have BK287 := Aside0.mk (hbox); have GW287 := Aside0.mk ((qe HB hg : w.heap.size ≤ gb287)); have GE287 := Aside0.mk ((qe HB hg : w.heap.size ≤ gb287)); replace HB := Aside0.mk (below_step (qs HB) hb); clear hb hbox hg) | ((with_reducible refine gate_dst (N := 3) rfl ?_); (try (refine gate_guard (by rfl) ?_; dsimp only)); refine qE (N := 3) (cs := (Ar.cells .u8 8 (List.replicate 8 0))) (t := 84) ?_; intro gb288 hg w3 hbox hb; have BK288 := Aside0.mk (hbox); have GW288 := Aside0.mk ((qe HB hg : w.heap.size ≤ gb288)); have GE288 := Aside0.mk ((qe HB hg : w.heap.size ≤ gb288)); replace HB := Aside0.mk (below_step (qs HB) hb); have NB287_288 := Aside0.mk ((qu BK287 hg : gb287 ≠ gb288)); have NB288_287 := Aside0.mk ((qw BK287 hg : gb288 ≠ gb287)); replace BK287 := Aside0.mk (qB BK287 hb); clear hb hbox hg))
 go_loopg [0, 4] k (fun kq v0 v4 w' => ∃ (x0_1 : Int) (x4_1 : Int) (x289000_1 : List Int), v0 = .int .u64 x0_1 ∧ v4 = .int .i64 x4_1 ∧ Aside0 (drawlotref01_Put64.l0 kq x0_1 x4_1 x289000_1 = some r) ∧ Aside0 (kq ≤ k) ∧ Aside0 (w'.heap[gb287]? = some (.cells (Ar.cells .u8 8 (List.replicate 8 0)) 84 (0, 0))) ∧ Aside0 (w'.heap[gb288]? = some (.cells (Ar.cells .u8 8 x289000_1) 84 (0, 0))) ∧ Aside0 (Below w.heap.size w w'))
 case atStart => exact ⟨(a0), (7), ((List.replicate 8 0)), (by first | rfl | (simp; done) | (simp [*]; done)), (by first | rfl | (simp; done) | (simp [*]; done)), H', ⟨Nat.le_refl _⟩, ⟨by (with_reducible repeat (first | refine blk_drewN ?_ _ | refine blk_drew ?_ | refine blk_alloc ?_ _)); exact BK287.out⟩, ⟨by (with_reducible repeat (first | refine blk_drewN ?_ _ | refine blk_drew ?_ | refine blk_alloc ?_ _)); exact BK288.out⟩, ⟨by repeat (first | (with_reducible first | exact HB.out | apply below_alloc | apply pw_below_drewN | apply below_drew1 | refine below_set ?_ GE287.out | refine below_set ?_ GE288.out) | exact HB.out)⟩⟩
 case round =>
  clear H'
  try clear p2
  obtain ⟨x0_1, x4_1, x289000_1, rfl, rfl, HA, HK1, BK287, BK288, HB⟩ := hrel
  cases gk with
  | zero => exact absurd HA.out (by simp [drawlotref01_Put64.l0])
  | succ k1 =>
   have H := HA.out
   clear HA
   simp only [drawlotref01_Put64.l0] at H
   by_cases c4 : x4_1 ≥ 0
   ·rw [if_pos c4] at H
    have c4b0 : decide (0 ≤ x4_1) = true := decide_eq_true c4
    clear c4
    by_cases c5 : 0 ≤ x4_1
    ·rw [if_pos c5] at H
     have c5b0 : decide (0 ≤ x4_1) = true := decide_eq_true c5
     clear c5
     by_cases c6 : x4_1 < 8
     ·rw [if_pos c6] at H
      have c6b0 : decide (x4_1 < 8) = true := decide_eq_true c6
      clear c6
      obtain ⟨y289, hy289⟩ : ∃ y_ : List Int, y_ = (Ar.set 8 x289000_1 x4_1 ((Int.tmod x0_1 256) % 256)) := ⟨_, rfl⟩
      replace H : (drawlotref01_Put64.l0 k1 (IntKind.u64.wrap (Int.tdiv x0_1 256)) (wrap64 (x4_1 - 1)) y289) = some r := by first | (rw [hy289]; with_reducible exact H) | (have H2_ := (Option.bind_some _ _).symm.trans H; rw [hy289]; with_reducible exact H2_) | (have H2_ := (Option.bind_some _ _).symm.trans H; with_reducible exact H2_) | with_reducible exact H | (rw [hy289]; exact H) | exact H
      have Ny289 := Aside0.mk hy289
      clear hy289
      have H' := Aside0.mk H
      clear H
      go_wp2_with (first | ((with_reducible refine gate_dst (N := 13) rfl ?_); (try (refine gate_guard (by rfl) ?_; dsimp only)); refine Ar.idx_event rfl (D := 13) rfl (T := 84) (n := 8) rfl Tryd.underlying84 (by kernel_rfl) (g := gb288) rfl (j := x4_1) qg qo qo ?_) | ((with_reducible refine gate_store (t := 5) (p := 13) rfl ?_); refine Ar.put_event rfl rfl rfl (by kernel_rfl) (g := gb288) (j := x4_1) rfl (z := ((Int.tmod x0_1 256) % 256)) qg (qb BK288) qo qo ?_; intro w7 hbk_ hg; rw [← Ny289.out] at hbk_; replace BK287 := Aside0.mk (qG BK287 hg (fun e_ => NB287_288.out (Option.some.inj e_))); replace BK288 := Aside0.mk (hbk_); replace HB := Aside0.mk (Below.grown (qs HB) hg ((below_size (qs HB))) (fun _ e_ => by cases e_; exact GE288.out)); clear hbk_ hg))
      go_roundg k1
      case measure => have := HK1.out; omega
      case rel => exact ⟨(IntKind.u64.wrap (Int.tdiv x0_1 256)), (wrap64 (x4_1 - 1)), (y289), (by first | rfl | (simp; done) | (simp [*]; done)), (by first | rfl | (simp; done) | (simp [*]; done)), H', ⟨by have := HK1.out; omega⟩, ⟨by (with_reducible repeat (first | refine blk_drewN ?_ _ | refine blk_drew ?_ | refine blk_alloc ?_ _)); exact BK287.out⟩, ⟨by (with_reducible repeat (first | refine blk_drewN ?_ _ | refine blk_drew ?_ | refine blk_alloc ?_ _)); exact BK288.out⟩, ⟨by repeat (first | (with_reducible first | exact HB.out | apply below_alloc | apply pw_below_drewN | apply below_drew1 | refine below_set ?_ GE287.out | refine below_set ?_ GE288.out) | exact HB.out)⟩⟩
     ·rw [if_neg c6] at H
      exact absurd H (by simp)
    ·rw [if_neg c5] at H
     exact absurd H (by simp)
   ·rw [if_neg c4] at H
    have c4b0 : decide (0 ≤ x4_1) = false := decide_eq_false c4
    clear c4
    obtain rfl := Option.some.inj H
    go_wp2_with (first | ((with_reducible refine gate_dst (N := 16) rfl ?_); (try (refine gate_guard (by rfl) ?_; dsimp only)); refine Ar.load_event rfl (D := 16) rfl (T := 84) rfl Tryd.underlying84 (by kernel_rfl) (g := gb288) rfl (qb BK288) ?_) | ((with_reducible refine gate_store (t := 84) (p := 2) rfl ?_); refine Ar.store_all_event rfl rfl rfl Tryd.underlying84 (by kernel_rfl) (g := gb287) rfl (z := x289000_1) qg (qb BK287) ?_; intro w8 hbk_ hg; replace BK288 := Aside0.mk (qG BK288 hg (fun e_ => NB288_287.out (Option.some.inj e_))); replace BK287 := Aside0.mk (hbk_); replace HB := Aside0.mk (Below.grown (qs HB) hg ((below_size (qs HB))) (fun _ e_ => by cases e_; exact GE287.out)); clear hbk_ hg))
    refine bodyPost_ret (results_cell_row rfl _ _ gb287 84 (Ar.cells .u8 8 x289000_1) (0, 0) _ rfl (qb BK287) Tryd.underlying84 rfl qZ) rfl ?_
    exact ⟨by first | rfl | (simp [errW_none, errW_some] <;> rfl) | (simp [*, errW_none, errW_some] <;> rfl), by repeat (first | (with_reducible first | exact HB.out | apply below_alloc | apply pw_below_drewN | apply below_drew1 | refine below_set ?_ GE287.out | refine below_set ?_ GE288.out) | exact HB.out)⟩
mutual
def drawlotref02_Tail.j0 : Nat → List Int → Int → Bool → Option (List Int × Bool)
 | 0, _, _, _ => none
 | k + 1, x0, x1, x18 => if x18 = true then (some (([] : List Int), false)) else ((some (([] : List Int) : List Int)).bind fun y290 => (if y290.length + x0.length < 140737488355328 then ((some (y290 ++ x0 : List Int)).bind fun y293 => (if y293.length < 140737488355328 then (drawlotref02_Tail.l0 k x1 (y293 ++ [128])) else (none))) else (none)))
def drawlotref02_Tail.l0 : Nat → Int → List Int → Option (List Int × Bool)
 | 0, _, _ => none
 | k + 1, x1, x6 => if ((x6.length : Int) % 64) = 56 then ((drawlotref01_Put64.f k (IntKind.u64.wrap (8 * x1))).bind fun t302 => (drawlotref02_Tail.l1 k x6 0 t302)) else (if x6.length < 140737488355328 then (drawlotref02_Tail.l0 k x1 (x6 ++ [0])) else (none))
def drawlotref02_Tail.l1 : Nat → List Int → Int → List Int → Option (List Int × Bool)
 | 0, _, _, _ => none
 | k + 1, x6, x8, x304000 => if x8 < 8 then (if 0 ≤ x8 then (if x6.length < 140737488355328 then (drawlotref02_Tail.l1 k (x6 ++ [Ar.get 8 x304000 x8]) (wrap64 (x8 + 1)) x304000) else (none)) else (none)) else (some (x6, true))
end
def drawlotref02_Tail.f (k : Nat) (l0 : List Int) (a1 : Int) : Option (List Int × Bool) := if a1 ≥ 2305843009213693952 then (drawlotref02_Tail.j0 k l0 a1 true) else (drawlotref02_Tail.j0 k l0 a1 ((IntKind.u64.wrap ((l0.length : Int))) != (Int.tmod a1 64)))
theorem drawlotref02_Tail.mono_l : ∀ k, (∀ y0 y1 y2, LeO (drawlotref02_Tail.j0 k y0 y1 y2) (drawlotref02_Tail.j0 (k + 1) y0 y1 y2)) ∧ (∀ y0 y1, LeO (drawlotref02_Tail.l0 k y0 y1) (drawlotref02_Tail.l0 (k + 1) y0 y1)) ∧ (∀ y0 y1 y2, LeO (drawlotref02_Tail.l1 k y0 y1 y2) (drawlotref02_Tail.l1 (k + 1) y0 y1 y2))
 | 0 => ⟨fun _ _ _ r h => by simp [drawlotref02_Tail.j0] at h, fun _ _ r h => by simp [drawlotref02_Tail.l0] at h, fun _ _ _ r h => by simp [drawlotref02_Tail.l1] at h⟩
 | k + 1 => by
  obtain ⟨ih0, ih1, ih2⟩ := drawlotref02_Tail.mono_l k
  refine ⟨?_, ?_, ?_⟩
  ·intro y0 y1 y2
   unfold drawlotref02_Tail.j0
   repeat' first
   | (with_reducible exact ih0 _ _ _)
   | (with_reducible exact ih1 _ _)
   | (with_reducible exact ih2 _ _ _)
   | (with_reducible exact drawlotref01_Put64.mono _ _)
   | (with_reducible exact LeO.refl _)
   | (with_reducible exact LeO.none _)
   | (with_reducible refine LeO.ite ?_ ?_)
   | (with_reducible refine LeO.bind ?_ (fun _ => ?_))
   | exact ih0 _ _ _
   | exact ih1 _ _
   | exact ih2 _ _ _
   | exact drawlotref01_Put64.mono _ _
   | exact LeO.none _
   | refine LeO.ite ?_ ?_
   | refine LeO.bind ?_ (fun _ => ?_)
  ·intro y0 y1
   unfold drawlotref02_Tail.l0
   repeat' first
   | (with_reducible exact ih0 _ _ _)
   | (with_reducible exact ih1 _ _)
   | (with_reducible exact ih2 _ _ _)
   | (with_reducible exact drawlotref01_Put64.mono _ _)
   | (with_reducible exact LeO.refl _)
   | (with_reducible exact LeO.none _)
   | (with_reducible refine LeO.ite ?_ ?_)
   | (with_reducible refine LeO.bind ?_ (fun _ => ?_))
   | exact ih0 _ _ _
   | exact ih1 _ _
   | exact ih2 _ _ _
   | exact drawlotref01_Put64.mono _ _
   | exact LeO.none _
   | refine LeO.ite ?_ ?_
   | refine LeO.bind ?_ (fun _ => ?_)
  ·intro y0 y1 y2
   unfold drawlotref02_Tail.l1
   repeat' first
   | (with_reducible exact ih0 _ _ _)
   | (with_reducible exact ih1 _ _)
   | (with_reducible exact ih2 _ _ _)
   | (with_reducible exact drawlotref01_Put64.mono _ _)
   | (with_reducible exact LeO.refl _)
   | (with_reducible exact LeO.none _)
   | (with_reducible refine LeO.ite ?_ ?_)
   | (with_reducible refine LeO.bind ?_ (fun _ => ?_))
   | exact ih0 _ _ _
   | exact ih1 _ _
   | exact ih2 _ _ _
   | exact drawlotref01_Put64.mono _ _
   | exact LeO.none _
   | refine LeO.ite ?_ ?_
   | refine LeO.bind ?_ (fun _ => ?_)
theorem drawlotref02_Tail.mono : ∀ a0 a1 k, LeO (drawlotref02_Tail.f k a0 a1) (drawlotref02_Tail.f (k + 1) a0 a1) := by
 intro a0 a1 k
 obtain ⟨ih0, ih1, ih2⟩ := drawlotref02_Tail.mono_l k
 unfold drawlotref02_Tail.f
 repeat' first
   | (with_reducible exact ih0 _ _ _)
   | (with_reducible exact ih1 _ _)
   | (with_reducible exact ih2 _ _ _)
   | (with_reducible exact drawlotref01_Put64.mono _ _)
   | (with_reducible exact LeO.refl _)
   | (with_reducible exact LeO.none _)
   | (with_reducible refine LeO.ite ?_ ?_)
   | (with_reducible refine LeO.bind ?_ (fun _ => ?_))
   | exact ih0 _ _ _
   | exact ih1 _ _
   | exact ih2 _ _ _
   | exact drawlotref01_Put64.mono _ _
   | exact LeO.none _
   | refine LeO.ite ?_ ?_
   | refine LeO.bind ?_ (fun _ => ?_)
set_option maxHeartbeats 8000000 in
set_option maxRecDepth 100000 in
theorem drawlotref02_Tail.calls (k : Nat) (A0 : Option Addr) (c0 : Nat) (l0 : List Int) (a1 : Int) (r1 : List Int) (r2 : Bool) (w : World) (hr0 : Kd.C (Kd.int .u8) w A0 l0.length l0) (hc0 : l0.length ≤ c0) (h : drawlotref02_Tail.f k l0 a1 = some (r1, r2)) :
  Calls Tryd.prog 35 #[.slice A0 l0.length c0, .int .u64 a1] w fun e w' => ∃ v0_ : Value, e = .returned (.tuple #[v0_, .bool r2]) ∧ Kd.R (Kd.int .u8) 5 w' w.heap.size (fun _ => True) v0_ r1 ∧ Below w.heap.size w w' := by
 have HR0 := Aside0.mk hr0
 have HC0 := Aside0.mk hc0
 clear hr0 hc0
 have HB := Aside0.mk (Below.refl w.heap.size w)
 have H : (if a1 ≥ 2305843009213693952 then (drawlotref02_Tail.j0 k l0 a1 true) else (drawlotref02_Tail.j0 k l0 a1 ((IntKind.u64.wrap ((l0.length : Int))) != (Int.tmod a1 64)))) = some (r1, r2) := h
 clear h
 have HC3 := Aside0.mk H
 clear H
 go_enter Tryd.func35, Tryd.ntmps35
 go_upto_region 1 with (fail)
 go_cut [18] (fun v18 wc => ∃ (kq : Nat) (x18_2 : Bool), v18 = .bool x18_2 ∧ Aside0 (drawlotref02_Tail.j0 kq l0 a1 x18_2 = some (r1, r2)) ∧ Aside0 (kq ≤ k) ∧ Aside0 (Below w.heap.size w wc))
 case first =>
  have H := HC3.out
  clear HC3
  by_cases c4 : a1 ≥ 2305843009213693952
  ·rw [if_pos c4] at H
   have c4b0 : decide (2305843009213693952 ≤ a1) = true := decide_eq_true c4
   clear c4
   (first | rw [c4b0] | (simp only [i64_w, i32_w]; rw [c4b0]) | skip)
   have H' := Aside0.mk H
   clear H
   go_wp2
   go_meet
   case rel => exact ⟨_, (true), (by first | rfl | (simp; done) | (simp [*]; done)), H', ⟨by first | omega | exact Nat.le_refl _⟩, ⟨by repeat (first | (with_reducible first | exact HB.out | apply below_alloc | apply pw_below_drewN | apply below_drew1) | exact HB.out)⟩⟩
  ·rw [if_neg c4] at H
   have c4b0 : decide (2305843009213693952 ≤ a1) = false := decide_eq_false c4
   clear c4
   (first | rw [c4b0] | (simp only [i64_w, i32_w]; rw [c4b0]) | skip)
   have H' := Aside0.mk H
   clear H
   go_wp2
   go_meet
   case rel => exact ⟨_, (((IntKind.u64.wrap ((l0.length : Int))) != (Int.tmod a1 64))), (by first | rfl | (simp; done) | (simp [*]; done)), H', ⟨by first | omega | exact Nat.le_refl _⟩, ⟨by repeat (first | (with_reducible first | exact HB.out | apply below_alloc | apply pw_below_drewN | apply below_drew1) | exact HB.out)⟩⟩
 case rest =>
  clear HC3
  try clear p2
  try clear c3
  try clear c4
  try clear c4b0
  obtain ⟨kq, x18_2, rfl, HA, HJ2, HB⟩ := hcut
  cases kq with
  | zero => exact absurd HA.out (by simp [drawlotref02_Tail.j0])
  | succ kj2 =>
   have H := HA.out
   clear HA
   simp only [drawlotref02_Tail.j0] at H
   by_cases c5 : x18_2 = true
   ·subst c5
    have H1 : (some (([] : List Int), false)) = some (r1, r2) := by rw [if_pos rfl] at H; exact H
    clear H
    have H := H1
    clear H1
    simp only [Option.some.injEq, Prod.mk.injEq] at H
    obtain ⟨rfl, rfl⟩ := H
    go_wp2
    go_ret2
    exact ⟨_, by first | rfl | (simp [errW_none, errW_some] <;> rfl) | (simp [*, errW_none, errW_some] <;> rfl), by first | exact Kd.R_nil _ _ _ _ _ | exact Kd.N_nil _ _ _ _ _ | exact Kd.V_nil _ _ _ _ _ | exact Kd.Q_nil _ _ _ _ _ | exact Kd.S_nil _ _ _ _ _, by repeat (first | (with_reducible first | exact HB.out | apply below_alloc | apply pw_below_drewN | apply below_drew1) | exact HB.out)⟩
   ·replace c5 := Bool.eq_false_iff.mpr c5
    subst c5
    have H1 : ((some (([] : List Int) : List Int)).bind fun y290 => (if y290.length + l0.length < 140737488355328 then ((some (y290 ++ l0 : List Int)).bind fun y293 => (if y293.length < 140737488355328 then (drawlotref02_Tail.l0 kj2 a1 (y293 ++ [128])) else (none))) else (none))) = some (r1, r2) := by rw [if_neg (show ¬ (false = true) by decide)] at H; exact H
    clear H
    have H := H1
    clear H1
    obtain ⟨y290, hy290⟩ : ∃ y_ : List Int, y_ = (([] : List Int)) := ⟨_, rfl⟩
    replace H : (if y290.length + l0.length < 140737488355328 then ((some (y290 ++ l0 : List Int)).bind fun y293 => (if y293.length < 140737488355328 then (drawlotref02_Tail.l0 kj2 a1 (y293 ++ [128])) else (none))) else (none)) = some (r1, r2) := by first | (rw [hy290]; with_reducible exact H) | (have H2_ := (Option.bind_some _ _).symm.trans H; rw [hy290]; with_reducible exact H2_) | (have H2_ := (Option.bind_some _ _).symm.trans H; with_reducible exact H2_) | with_reducible exact H | (rw [hy290]; exact H) | exact H
    have Ny290 := Aside0.mk hy290
    clear hy290
    by_cases c6 : y290.length + l0.length < 140737488355328
    ·rw [if_pos c6] at H
     have LMc6 := Aside0.mk c6
     clear c6
     obtain ⟨y293, hy293⟩ : ∃ y_ : List Int, y_ = (y290 ++ l0) := ⟨_, rfl⟩
     replace H : (if y293.length < 140737488355328 then (drawlotref02_Tail.l0 kj2 a1 (y293 ++ [128])) else (none)) = some (r1, r2) := by first | (rw [hy293]; with_reducible exact H) | (have H2_ := (Option.bind_some _ _).symm.trans H; rw [hy293]; with_reducible exact H2_) | (have H2_ := (Option.bind_some _ _).symm.trans H; with_reducible exact H2_) | with_reducible exact H | (rw [hy293]; exact H) | exact H
     have Ny293 := Aside0.mk hy293
     clear hy293
     by_cases c7 : y293.length < 140737488355328
     ·rw [if_pos c7] at H
      have LMc7 := Aside0.mk c7
      clear c7
      obtain ⟨y296, hy296⟩ : ∃ y_ : List Int, y_ = (y293 ++ [128]) := ⟨_, rfl⟩
      replace H : (drawlotref02_Tail.l0 kj2 a1 y296) = some (r1, r2) := by first | (rw [hy296]; with_reducible exact H) | (have H2_ := (Option.bind_some _ _).symm.trans H; rw [hy296]; with_reducible exact H2_) | (have H2_ := (Option.bind_some _ _).symm.trans H; with_reducible exact H2_) | with_reducible exact H | (rw [hy296]; exact H) | exact H
      have Ny296 := Aside0.mk hy296
      clear hy296
      have H' := Aside0.mk H
      clear H
      go_wp2_with (first | ((with_reducible refine gate_dst (N := 19) rfl ?_); (try (refine gate_guard (by rfl) ?_; dsimp only)); refine Kd.R_lit (Kd.int .u8) _ 5 ?hg (N := 19) ?hd (xs := ([] : List Int)) (inner := []) (ok := fun _ => True) (okp := fun _ => True) ?hr ?hp (fun _ hk => hk) trivial (Below.refl _ _) (Nat.le_refl _) (by simp) ?_; (case hd => rfl); (case hg => rfl); (case hr => first | (go_simp; done) | (go_simp; rfl)); (case hp => exact (Reps.none _ _)); intro v291 w8 ho9 hb hg_ hnew_; clear hg_ hnew_; (first | rw [← Ny290.out] at ho9 | (simp only [Int.reduceToNat] at ho9; rw [← Ny290.out] at ho9)); have HO292 := Aside0.mk (Kd.R_lower ho9 (below_size (qs HB))); replace HB := Aside0.mk (below_step (qs HB) hb); clear hb ho9) | ((with_reducible refine gate_builtin (b := .append) (xs := #[.tmp 19, .tmp 20]) rfl ?_); (try (refine gate_guard (by rfl) ?_; dsimp only)); at_builtin; refine Kd.R_append_rows (Kd.int .u8) (w0 := w) w.heap.size rfl (.tmp 19) (.tmp 20) 29 5 (.int .u8 0) 1 rfl Tryd.underlying29 info5 rfl (by decide) (by omega) v291 y290 l0 _ _ _ (fun _ => True) (fun _ => False) rfl rfl ?aO ?aR (fun _ _ h => h) (fun _ h => h.elim) ?aF ?aB ?aS ?aL ?_; (case aR => repeat (first | exact (Kd.C_below HR0.out HB.out) | (with_reducible refine Kd.C_alloc ?_ _) | (with_reducible refine Kd.C_drewN ?_ _) | (with_reducible refine Kd.C_drew ?_))); (case aB => exact (qs HB)); (case aF => exact (fun _ _ => trivial)); (case aO => exact (qr HO292)); (case aS => exact (below_size (qs HB))); (case aL => have := LMc6.out; omega); intro v294 w10 ho hb hg hat; rw [← Ny293.out] at ho; replace HB := Aside0.mk (hb); have HO295 := Aside0.mk (ho); clear HO292 ho hb hg hat) | ((with_reducible refine gate_builtin (b := .append) (xs := #[.tmp 21, .tmp 22]) rfl ?_); (try (refine gate_guard (by rfl) ?_; dsimp only)); at_builtin; refine Kd.R_append (Kd.int .u8) (w0 := w) w.heap.size rfl (.tmp 21) (.tmp 22) 29 5 (.int .u8 0) 1 rfl Tryd.underlying29 info5 rfl (by decide) (by omega) v294 y293 128 [.int .u8 128] (fun _ => True) (fun _ => False) rfl rfl ?aP (fun _ hk => hk.elim) ?aF ?aO ?aB ?aS ?aL ?_; (case aP => exact rfl); (case aB => exact (qs HB)); (case aF => exact (fun _ _ => trivial)); (case aO => exact (qr HO295)); (case aS => exact (below_size (qs HB))); (case aL => have := LMc7.out; omega); intro v297 w11 ho hb hg hat; rw [← Ny296.out] at ho; replace HB := Aside0.mk (hb); have HO298 := Aside0.mk (ho); clear HO295 ho hb hg hat))
      go_loopg [6] kj2 (fun kq v6 w' => ∃ (x6_2 : List Int), Aside0 (drawlotref02_Tail.l0 kq a1 x6_2 = some (r1, r2)) ∧ Aside0 (kq ≤ kj2) ∧ Aside0 (Kd.R (Kd.int .u8) 5 w' w.heap.size (fun _ => True) v6 x6_2) ∧ Aside0 (Below w.heap.size w w'))
      case atStart => exact ⟨(y296), H', ⟨Nat.le_refl _⟩, ⟨by (with_reducible repeat (first | apply Kd.R_alloc | apply Kd.R_drewN | apply Kd.R_drew)); exact HO298.out⟩, ⟨by repeat (first | (with_reducible first | exact HB.out | apply below_alloc | apply pw_below_drewN | apply below_drew1) | exact HB.out)⟩⟩
      case round =>
       clear H'
       try clear p2
       try clear c3
       try clear c4
       try clear c4b0
       try clear c5
       try clear c6
       try clear c7
       try clear p2
       obtain ⟨x6_2, HA, HK2, HO_6, HB⟩ := hrel
       cases gk with
       | zero => exact absurd HA.out (by simp [drawlotref02_Tail.l0])
       | succ k2 =>
        have H := HA.out
        clear HA
        simp only [drawlotref02_Tail.l0] at H
        by_cases c12 : ((x6_2.length : Int) % 64) = 56
        ·rw [if_pos c12] at H
         have c12b0 : (((x6_2.length : Int) % 64) == 56) = true := beq_iff_eq.mpr c12
         have c12b1 : (((x6_2.length : Int) % 64) != 56) = false := bne_eq_false_iff_eq.mpr c12
         clear c12
         replace H := Option.bind_eq_some_iff.mp H
         obtain ⟨t302, A130, H⟩ := H
         replace H : (drawlotref02_Tail.l1 k2 x6_2 0 t302) = some (r1, r2) := H
         have A13 := Aside0.mk A130
         clear A130
         have H' := Aside0.mk H
         clear H
         obtain ⟨Ao14, co14, eo14⟩ := Kd.R_slice HO_6.out
         subst eo14
         go_wp2_with (first | ((with_reducible refine gate_callee (f := 51) rfl ?_); refine goesL_ (some 33) rfl rfl Tryd.func51 (by kernel_rfl) rfl #[.int .u64 (IntKind.u64.wrap (8 * a1))] rfl ql ?_; (with_reducible refine (drawlotref01_Put64.calls k2 (IntKind.u64.wrap (8 * a1)) t302 _ A13.out).mono ?_); rintro e w15 ⟨rfl, hb⟩; refine ⟨_, rfl, ?_⟩; replace HO_6 := Aside0.mk (Kd.R_below (qr HO_6) hb); replace HB := Aside0.mk (below_step (qs HB) hb); (try clear hb); (try clear hb2); (try clear hk); (try clear hi)) | ((with_reducible refine gate_dst (N := 7) rfl ?_); (try (refine gate_guard (by rfl) ?_; dsimp only)); refine qE (N := 7) (cs := (Ar.cells .u8 8 (List.replicate 8 0))) (t := 84) ?_; intro gb303 hg w16 hbox hb; replace HO_6 := Aside0.mk (Kd.R_below (qr HO_6) hb); have BK303 := Aside0.mk (hbox); have GW303 := Aside0.mk ((qe HB hg : w.heap.size ≤ gb303)); have GE303 := Aside0.mk ((qe HB hg : w.heap.size ≤ gb303)); replace HB := Aside0.mk (below_step (qs HB) hb); clear hb hbox hg) | ((with_reducible refine gate_store (t := 84) (p := 7) rfl ?_); refine Ar.store_all_event rfl rfl rfl Tryd.underlying84 (by kernel_rfl) (g := gb303) rfl (z := t302) qg (qb BK303) ?_; intro w17 hbk_ hg; replace HO_6 := Aside0.mk (Kd.R_mono (Kd.R_grown (Kd.R_types (qr HO_6) BK303.out (by decide)) hg (fun k_ hk_ e_ => hk_.2 (Option.some.inj e_))) (fun _ h_ => h_.1)); replace BK303 := Aside0.mk (hbk_); replace HB := Aside0.mk (Below.grown (qs HB) hg ((below_size (qs HB))) (fun _ e_ => by cases e_; exact GE303.out)); clear hbk_ hg))
         go_loopg [6, 8] k2 (fun kq v6 v8 w' => ∃ (x6_3 : List Int) (x8_3 : Int), v8 = .int .i64 x8_3 ∧ Aside0 (drawlotref02_Tail.l1 kq x6_3 x8_3 t302 = some (r1, r2)) ∧ Aside0 (kq ≤ k2) ∧ Aside0 (Kd.R (Kd.int .u8) 5 w' w.heap.size (fun _ => True) v6 x6_3) ∧ Aside0 (w'.heap[gb303]? = some (.cells (Ar.cells .u8 8 t302) 84 (0, 0))) ∧ Aside0 (Below w.heap.size w w'))
         case atStart => exact ⟨(x6_2), (0), (by first | rfl | (simp; done) | (simp [*]; done)), H', ⟨Nat.le_refl _⟩, ⟨by (with_reducible repeat (first | apply Kd.R_alloc | apply Kd.R_drewN | apply Kd.R_drew)); exact HO_6.out⟩, ⟨by (with_reducible repeat (first | refine blk_drewN ?_ _ | refine blk_drew ?_ | refine blk_alloc ?_ _)); exact BK303.out⟩, ⟨by repeat (first | (with_reducible first | exact HB.out | apply below_alloc | apply pw_below_drewN | apply below_drew1 | refine below_set ?_ GE303.out) | exact HB.out)⟩⟩
         case round =>
          clear H'
          try clear c1
          try clear p2
          try clear c3
          try clear c4
          try clear c4b0
          try clear c5
          try clear c6
          try clear c7
          try clear c12
          try clear c12b0
          try clear c12b1
          try clear p2
          obtain ⟨x6_3, x8_3, rfl, HA, HK3, HO_6, BK303, HB⟩ := hrel
          cases gk with
          | zero => exact absurd HA.out (by simp [drawlotref02_Tail.l1])
          | succ k3 =>
           have H := HA.out
           clear HA
           simp only [drawlotref02_Tail.l1] at H
           by_cases c18 : x8_3 < 8
           ·rw [if_pos c18] at H
            have c18b0 : decide (x8_3 < 8) = true := decide_eq_true c18
            clear c18
            by_cases c19 : 0 ≤ x8_3
            ·rw [if_pos c19] at H
             have c19b0 : decide (0 ≤ x8_3) = true := decide_eq_true c19
             clear c19
             by_cases c20 : x6_3.length < 140737488355328
             ·rw [if_pos c20] at H
              have LMc20 := Aside0.mk c20
              clear c20
              obtain ⟨y304, hy304⟩ : ∃ y_ : List Int, y_ = (x6_3 ++ [Ar.get 8 t302 x8_3]) := ⟨_, rfl⟩
              replace H : (drawlotref02_Tail.l1 k3 y304 (wrap64 (x8_3 + 1)) t302) = some (r1, r2) := by first | (rw [hy304]; with_reducible exact H) | (have H2_ := (Option.bind_some _ _).symm.trans H; rw [hy304]; with_reducible exact H2_) | (have H2_ := (Option.bind_some _ _).symm.trans H; with_reducible exact H2_) | with_reducible exact H | (rw [hy304]; exact H) | exact H
              have Ny304 := Aside0.mk hy304
              clear hy304
              have H' := Aside0.mk H
              clear H
              go_wp2_with (first | ((with_reducible refine gate_dst (N := 40) rfl ?_); (try (refine gate_guard (by rfl) ?_; dsimp only)); refine Ar.idx_event rfl (D := 40) rfl (T := 84) (n := 8) rfl Tryd.underlying84 (by kernel_rfl) (g := gb303) rfl (j := x8_3) qg qo qo ?_) | ((with_reducible refine gate_dst (N := 41) rfl ?_); (try (refine gate_guard (by rfl) ?_; dsimp only)); refine Ar.get_event rfl (D := 41) rfl (E := 5) rfl Tryd.underlying5 (g := gb303) (j := x8_3) rfl (qb BK303) qo qo ?_) | ((with_reducible refine gate_builtin (b := .append) (xs := #[.tmp 38, .tmp 42]) rfl ?_); (try (refine gate_guard (by rfl) ?_; dsimp only)); at_builtin; refine Kd.R_append (Kd.int .u8) (w0 := w) w.heap.size rfl (.tmp 38) (.tmp 42) 29 5 (.int .u8 0) 1 rfl Tryd.underlying29 info5 rfl (by decide) (by omega) u6 x6_3 (Ar.get 8 t302 x8_3) [.int .u8 (Ar.get 8 t302 x8_3)] (fun _ => True) (fun _ => False) rfl rfl ?aP (fun _ hk => hk.elim) ?aF ?aO ?aB ?aS ?aL ?_; (case aP => exact rfl); (case aB => exact (qs HB)); (case aF => exact (fun _ _ => trivial)); (case aO => exact (qr HO_6)); (case aS => exact (below_size (qs HB))); (case aL => have := LMc20.out; omega); intro v305 w21 ho hb hg hat; rw [← Ny304.out] at ho; replace BK303 := Aside0.mk (qG BK303 hg (Kd.R_ne HO_6.out BK303.out (by decide))); replace HB := Aside0.mk (hb); have HO306 := Aside0.mk (ho); clear HO_6 ho hb hg hat))
              go_roundg k3
              case measure => have := HJ2.out; have := HK2.out; have := HK3.out; omega
              case rel => exact ⟨(y304), (wrap64 (x8_3 + 1)), (by first | rfl | (simp; done) | (simp [*]; done)), H', ⟨by have := HJ2.out; have := HK2.out; have := HK3.out; omega⟩, ⟨by (with_reducible repeat (first | apply Kd.R_alloc | apply Kd.R_drewN | apply Kd.R_drew)); exact HO306.out⟩, ⟨by (with_reducible repeat (first | refine blk_drewN ?_ _ | refine blk_drew ?_ | refine blk_alloc ?_ _)); exact BK303.out⟩, ⟨by repeat (first | (with_reducible first | exact HB.out | apply below_alloc | apply pw_below_drewN | apply below_drew1 | refine below_set ?_ GE303.out) | exact HB.out)⟩⟩
             ·rw [if_neg c20] at H
              exact absurd H (by simp)
            ·rw [if_neg c19] at H
             exact absurd H (by simp)
           ·rw [if_neg c18] at H
            have c18b0 : decide (x8_3 < 8) = false := decide_eq_false c18
            clear c18
            simp only [Option.some.injEq, Prod.mk.injEq] at H
            obtain ⟨rfl, rfl⟩ := H
            go_wp2
            go_ret2
            exact ⟨_, by first | rfl | (simp [errW_none, errW_some] <;> rfl) | (simp [*, errW_none, errW_some] <;> rfl), by (with_reducible repeat (first | apply Kd.R_alloc | apply Kd.R_drewN | apply Kd.R_drew)); exact HO_6.out, by repeat (first | (with_reducible first | exact HB.out | apply below_alloc | apply pw_below_drewN | apply below_drew1 | refine below_set ?_ GE303.out) | exact HB.out)⟩
        ·rw [if_neg c12] at H
         have c12b0 : (((x6_2.length : Int) % 64) == 56) = false := beq_eq_false_iff_ne.mpr c12
         have c12b1 : (((x6_2.length : Int) % 64) != 56) = true := bne_iff_ne.mpr c12
         by_cases c22 : x6_2.length < 140737488355328
         ·rw [if_pos c22] at H
          have LMc22 := Aside0.mk c22
          clear c22
          obtain ⟨y299, hy299⟩ : ∃ y_ : List Int, y_ = (x6_2 ++ [0]) := ⟨_, rfl⟩
          replace H : (drawlotref02_Tail.l0 k2 a1 y299) = some (r1, r2) := by first | (rw [hy299]; with_reducible exact H) | (have H2_ := (Option.bind_some _ _).symm.trans H; rw [hy299]; with_reducible exact H2_) | (have H2_ := (Option.bind_some _ _).symm.trans H; with_reducible exact H2_) | with_reducible exact H | (rw [hy299]; exact H) | exact H
          have Ny299 := Aside0.mk hy299
          clear hy299
          have H' := Aside0.mk H
          clear H
          obtain ⟨Ao23, co23, eo23⟩ := Kd.R_slice HO_6.out
          subst eo23
          go_wp2_with (first | ((with_reducible refine gate_builtin (b := .append) (xs := #[.tmp 28, .tmp 29]) rfl ?_); (try (refine gate_guard (by rfl) ?_; dsimp only)); at_builtin; refine Kd.R_append (Kd.int .u8) (w0 := w) w.heap.size rfl (.tmp 28) (.tmp 29) 29 5 (.int .u8 0) 1 rfl Tryd.underlying29 info5 rfl (by decide) (by omega) (.slice Ao23 x6_2.length co23) x6_2 0 [.int .u8 0] (fun _ => True) (fun _ => False) rfl rfl ?aP (fun _ hk => hk.elim) ?aF ?aO ?aB ?aS ?aL ?_; (case aP => exact rfl); (case aB => exact (qs HB)); (case aF => exact (fun _ _ => trivial)); (case aO => exact (qr HO_6)); (case aS => exact (below_size (qs HB))); (case aL => have := LMc22.out; omega); intro v300 w24 ho hb hg hat; rw [← Ny299.out] at ho; replace HB := Aside0.mk (hb); have HO301 := Aside0.mk (ho); clear HO_6 ho hb hg hat))
          go_roundg k2
          case measure => have := HJ2.out; have := HK2.out; omega
          case rel => exact ⟨(y299), H', ⟨by have := HJ2.out; have := HK2.out; omega⟩, ⟨by (with_reducible repeat (first | apply Kd.R_alloc | apply Kd.R_drewN | apply Kd.R_drew)); exact HO301.out⟩, ⟨by repeat (first | (with_reducible first | exact HB.out | apply below_alloc | apply pw_below_drewN | apply below_drew1) | exact HB.out)⟩⟩
         ·rw [if_neg c22] at H
          exact absurd H (by simp)
     ·rw [if_neg c7] at H
      exact absurd H (by simp)
    ·rw [if_neg c6] at H
     exact absurd H (by simp)
def drawlotref01_Put32.f (a0 : Int) : Option (List Int) := some [((Int.tdiv a0 16777216) % 4294967296) % 256, ((Int.tdiv a0 65536) % 4294967296) % 256, ((Int.tdiv a0 256) % 4294967296) % 256, (Int.tmod a0 256) % 256]
set_option maxHeartbeats 8000000 in
set_option maxRecDepth 100000 in
theorem drawlotref01_Put32.calls (a0 : Int) (r : List Int) (w : World) (h : drawlotref01_Put32.f a0 = some r) :
    Calls Tryd.prog 43 #[.int .u32 a0] w fun e w' => e = .returned (.agg (Ar.cells .u8 4 r)) ∧ Below w.heap.size w w' := by
  have HB := Aside0.mk (Below.refl w.heap.size w)
  have H : (some [((Int.tdiv a0 16777216) % 4294967296) % 256, ((Int.tdiv a0 65536) % 4294967296) % 256, ((Int.tdiv a0 256) % 4294967296) % 256, (Int.tmod a0 256) % 256]) = some r := h
  clear h
  obtain rfl := Option.some.inj H
  go_enter Tryd.func43, Tryd.ntmps43
  go_wp2_with (first | ((with_reducible refine gate_dst (N := 2) rfl ?_); (try (refine gate_guard (by rfl) ?_; dsimp only)); refine qE (N := 2) (cs := (Ar.cells .u8 4 (List.replicate 4 0))) (t := 79) ?_; intro gb322 hg w2 hbox hb; have BK322 := Aside0.mk (hbox); have GW322 := Aside0.mk ((qe HB hg : w.heap.size ≤ gb322)); have GE322 := Aside0.mk ((qe HB hg : w.heap.size ≤ gb322)); replace HB := Aside0.mk (below_step (qs HB) hb); clear hb hbox hg) | ((with_reducible refine gate_dst (N := 17) rfl ?_); (try (refine gate_guard (by rfl) ?_; dsimp only)); refine Ar.build_event rfl (D := 17) rfl (T := 79) rfl (k := .u8) (n := 4) (l := [((Int.tdiv a0 16777216) % 4294967296) % 256, ((Int.tdiv a0 65536) % 4294967296) % 256, ((Int.tdiv a0 256) % 4294967296) % 256, (Int.tmod a0 256) % 256]) Tryd.underlying79 (by kernel_rfl) (by kernel_rfl) [(0, ((Int.tdiv a0 16777216) % 4294967296) % 256), (1, ((Int.tdiv a0 65536) % 4294967296) % 256), (2, ((Int.tdiv a0 256) % 4294967296) % 256), (3, (Int.tmod a0 256) % 256)] (by rfl) (by rfl) (by rfl) ?_) | ((with_reducible refine gate_store (t := 79) (p := 2) rfl ?_); refine Ar.store_all_event rfl rfl rfl Tryd.underlying79 (by kernel_rfl) (g := gb322) rfl (z := [((Int.tdiv a0 16777216) % 4294967296) % 256, ((Int.tdiv a0 65536) % 4294967296) % 256, ((Int.tdiv a0 256) % 4294967296) % 256, (Int.tmod a0 256) % 256]) qg (qb BK322) ?_; intro w3 hbk_ hg; replace BK322 := Aside0.mk (hbk_); replace HB := Aside0.mk (Below.grown (qs HB) hg ((below_size (qs HB))) (fun _ e_ => by cases e_; exact GE322.out)); clear hbk_ hg))
  refine bodyPost_ret (results_cell_row rfl _ _ gb322 79 (Ar.cells .u8 4 [((Int.tdiv a0 16777216) % 4294967296) % 256, ((Int.tdiv a0 65536) % 4294967296) % 256, ((Int.tdiv a0 256) % 4294967296) % 256, (Int.tmod a0 256) % 256]) (0, 0) _ rfl (qb BK322) Tryd.underlying79 rfl qZ) rfl ?_
  exact ⟨by first | rfl | (simp [errW_none, errW_some] <;> rfl) | (simp [*, errW_none, errW_some] <;> rfl), by repeat (first | (with_reducible first | exact HB.out | apply below_alloc | apply pw_below_drewN | apply below_drew1 | refine below_set ?_ GE322.out) | exact HB.out)⟩
mutual
def drawlotref05_hash.l0 : Nat → Int → List Int → List Int → Option (List Int)
 | 0, _, _, _ => none
 | k + 1, x4, x324000, x326000 => if x4 < 8 then (if 0 ≤ x4 then ((drawlotref01_Put32.f (Ar.get 8 x324000 x4)).bind fun t326 => (drawlotref05_hash.l1 k x4 0 x324000 x326000 t326)) else (none)) else (some x326000)
def drawlotref05_hash.l1 : Nat → Int → Int → List Int → List Int → List Int → Option (List Int)
 | 0, _, _, _, _, _ => none
 | k + 1, x4, x6, x324000, x326000, x328000 => if x6 < 4 then (if 0 ≤ x6 then (if 0 ≤ (wrap64 ((wrap64 (4 * x4)) + x6)) then (if (wrap64 ((wrap64 (4 * x4)) + x6)) < 32 then (drawlotref05_hash.l1 k x4 (wrap64 (x6 + 1)) x324000 (Ar.set 32 x326000 (wrap64 ((wrap64 (4 * x4)) + x6)) (Ar.get 4 x328000 x6)) x328000) else (none)) else (none)) else (none)) else (drawlotref05_hash.l0 k (wrap64 (x4 + 1)) x324000 x326000)
end
def drawlotref05_hash.f (k : Nat) (a0 : List Int) : Option (List Int) := drawlotref05_hash.l0 k 0 a0 (List.replicate 32 0)
theorem drawlotref05_hash.mono_l : ∀ k, (∀ y0 y1 y2, LeO (drawlotref05_hash.l0 k y0 y1 y2) (drawlotref05_hash.l0 (k + 1) y0 y1 y2)) ∧ (∀ y0 y1 y2 y3 y4, LeO (drawlotref05_hash.l1 k y0 y1 y2 y3 y4) (drawlotref05_hash.l1 (k + 1) y0 y1 y2 y3 y4))
 | 0 => ⟨fun _ _ _ r h => by simp [drawlotref05_hash.l0] at h, fun _ _ _ _ _ r h => by simp [drawlotref05_hash.l1] at h⟩
 | k + 1 => by
  obtain ⟨ih0, ih1⟩ := drawlotref05_hash.mono_l k
  refine ⟨?_, ?_⟩
  ·intro y0 y1 y2
   unfold drawlotref05_hash.l0
   repeat' first
   | (with_reducible exact ih0 _ _ _)
   | (with_reducible exact ih1 _ _ _ _ _)
   | (with_reducible exact LeO.refl _)
   | (with_reducible exact LeO.none _)
   | (with_reducible refine LeO.ite ?_ ?_)
   | (with_reducible refine LeO.bind ?_ (fun _ => ?_))
   | exact ih0 _ _ _
   | exact ih1 _ _ _ _ _
   | exact LeO.none _
   | refine LeO.ite ?_ ?_
   | refine LeO.bind ?_ (fun _ => ?_)
  ·intro y0 y1 y2 y3 y4
   unfold drawlotref05_hash.l1
   repeat' first
   | (with_reducible exact ih0 _ _ _)
   | (with_reducible exact ih1 _ _ _ _ _)
   | (with_reducible exact LeO.refl _)
   | (with_reducible exact LeO.none _)
   | (with_reducible refine LeO.ite ?_ ?_)
   | (with_reducible refine LeO.bind ?_ (fun _ => ?_))
   | exact ih0 _ _ _
   | exact ih1 _ _ _ _ _
   | exact LeO.none _
   | refine LeO.ite ?_ ?_
   | refine LeO.bind ?_ (fun _ => ?_)
theorem drawlotref05_hash.mono : ∀ a0 k, LeO (drawlotref05_hash.f k a0) (drawlotref05_hash.f (k + 1) a0) := by
 intro a0 k
 obtain ⟨ih0, ih1⟩ := drawlotref05_hash.mono_l k
 unfold drawlotref05_hash.f
 repeat' first
   | (with_reducible exact ih0 _ _ _)
   | (with_reducible exact ih1 _ _ _ _ _)
   | (with_reducible exact LeO.refl _)
   | (with_reducible exact LeO.none _)
   | (with_reducible refine LeO.ite ?_ ?_)
   | (with_reducible refine LeO.bind ?_ (fun _ => ?_))
   | exact ih0 _ _ _
   | exact ih1 _ _ _ _ _
   | exact LeO.none _
   | refine LeO.ite ?_ ?_
   | refine LeO.bind ?_ (fun _ => ?_)
set_option maxHeartbeats 8000000 in
set_option maxRecDepth 100000 in
theorem drawlotref05_hash.calls (k : Nat) (a0 : List Int) (r : List Int) (w : World) (h : drawlotref05_hash.f k a0 = some r) :
  Calls Tryd.prog 28 #[.agg (Ar.cells .u32 8 a0)] w fun e w' => e = .returned (.agg (Ar.cells .u8 32 r)) ∧ Below w.heap.size w w' := by
 have HB := Aside0.mk (Below.refl w.heap.size w)
 have H : (drawlotref05_hash.l0 k 0 a0 (List.replicate 32 0)) = some r := h
 clear h
 have H' := Aside0.mk H
 clear H
 go_enter Tryd.func28, Tryd.ntmps28
 go_wp2_with (first | ((with_reducible refine gate_dst (N := 1) rfl ?_); (try (refine gate_guard (by rfl) ?_; dsimp only)); refine qE (N := 1) (cs := (Ar.cells .u32 8 a0)) (t := 33) ?_; intro gb323 hg w2 hbox hb; have BK323 := Aside0.mk (hbox); have GW323 := Aside0.mk ((qe HB hg : w.heap.size ≤ gb323)); have GE323 := Aside0.mk ((qe HB hg : w.heap.size ≤ gb323)); replace HB := Aside0.mk (below_step (qs HB) hb); clear hb hbox hg) | ((with_reducible refine gate_dst (N := 2) rfl ?_); (try (refine gate_guard (by rfl) ?_; dsimp only)); refine qE (N := 2) (cs := (Ar.cells .u8 32 (List.replicate 32 0))) (t := 26) ?_; intro gb324 hg w3 hbox hb; have BK324 := Aside0.mk (hbox); have GW324 := Aside0.mk ((qe HB hg : w.heap.size ≤ gb324)); have GE324 := Aside0.mk ((qe HB hg : w.heap.size ≤ gb324)); replace HB := Aside0.mk (below_step (qs HB) hb); have NB323_324 := Aside0.mk ((qu BK323 hg : gb323 ≠ gb324)); have NB324_323 := Aside0.mk ((qw BK323 hg : gb324 ≠ gb323)); replace BK323 := Aside0.mk (qB BK323 hb); clear hb hbox hg) | ((with_reducible refine gate_dst (N := 3) rfl ?_); (try (refine gate_guard (by rfl) ?_; dsimp only)); refine qE (N := 3) (cs := (Ar.cells .u8 32 (List.replicate 32 0))) (t := 26) ?_; intro gb325 hg w4 hbox hb; have BK325 := Aside0.mk (hbox); have GW325 := Aside0.mk ((qe HB hg : w.heap.size ≤ gb325)); have GE325 := Aside0.mk ((qe HB hg : w.heap.size ≤ gb325)); replace HB := Aside0.mk (below_step (qs HB) hb); have NB323_325 := Aside0.mk ((qu BK323 hg : gb323 ≠ gb325)); have NB325_323 := Aside0.mk ((qw BK323 hg : gb325 ≠ gb323)); replace BK323 := Aside0.mk (qB BK323 hb); have NB324_325 := Aside0.mk ((qu BK324 hg : gb324 ≠ gb325)); have NB325_324 := Aside0.mk ((qw BK324 hg : gb325 ≠ gb324)); replace BK324 := Aside0.mk (qB BK324 hb); clear hb hbox hg))
 go_loopg [4] k (fun kq v4 w' => ∃ (x4_1 : Int) (x326000_1 : List Int), v4 = .int .i64 x4_1 ∧ Aside0 (drawlotref05_hash.l0 kq x4_1 a0 x326000_1 = some r) ∧ Aside0 (kq ≤ k) ∧ Aside0 (w'.heap[gb323]? = some (.cells (Ar.cells .u32 8 a0) 33 (0, 0))) ∧ Aside0 (w'.heap[gb324]? = some (.cells (Ar.cells .u8 32 (List.replicate 32 0)) 26 (0, 0))) ∧ Aside0 (w'.heap[gb325]? = some (.cells (Ar.cells .u8 32 x326000_1) 26 (0, 0))) ∧ Aside0 (Below w.heap.size w w'))
 case atStart => exact ⟨(0), ((List.replicate 32 0)), (by first | rfl | (simp; done) | (simp [*]; done)), H', ⟨Nat.le_refl _⟩, ⟨by (with_reducible repeat (first | refine blk_drewN ?_ _ | refine blk_drew ?_ | refine blk_alloc ?_ _)); exact BK323.out⟩, ⟨by (with_reducible repeat (first | refine blk_drewN ?_ _ | refine blk_drew ?_ | refine blk_alloc ?_ _)); exact BK324.out⟩, ⟨by (with_reducible repeat (first | refine blk_drewN ?_ _ | refine blk_drew ?_ | refine blk_alloc ?_ _)); exact BK325.out⟩, ⟨by repeat (first | (with_reducible first | exact HB.out | apply below_alloc | apply pw_below_drewN | apply below_drew1 | refine below_set ?_ GE323.out | refine below_set ?_ GE324.out | refine below_set ?_ GE325.out) | exact HB.out)⟩⟩
 case round =>
  clear H'
  try clear c2
  try clear p2
  obtain ⟨x4_1, x326000_1, rfl, HA, HK1, BK323, BK324, BK325, HB⟩ := hrel
  cases gk with
  | zero => exact absurd HA.out (by simp [drawlotref05_hash.l0])
  | succ k1 =>
   have H := HA.out
   clear HA
   simp only [drawlotref05_hash.l0] at H
   by_cases c5 : x4_1 < 8
   ·rw [if_pos c5] at H
    have c5b0 : decide (x4_1 < 8) = true := decide_eq_true c5
    clear c5
    by_cases c6 : 0 ≤ x4_1
    ·rw [if_pos c6] at H
     have c6b0 : decide (0 ≤ x4_1) = true := decide_eq_true c6
     clear c6
     replace H := Option.bind_eq_some_iff.mp H
     obtain ⟨t326, A70, H⟩ := H
     replace H : (drawlotref05_hash.l1 k1 x4_1 0 a0 x326000_1 t326) = some r := H
     have A7 := Aside0.mk A70
     clear A70
     have H' := Aside0.mk H
     clear H
     go_wp2_with (first | ((with_reducible refine gate_dst (N := 12) rfl ?_); (try (refine gate_guard (by rfl) ?_; dsimp only)); refine Ar.idx_event rfl (D := 12) rfl (T := 33) (n := 8) rfl Tryd.underlying33 (by kernel_rfl) (g := gb323) rfl (j := x4_1) qg qo qo ?_) | ((with_reducible refine gate_dst (N := 13) rfl ?_); (try (refine gate_guard (by rfl) ?_; dsimp only)); refine Ar.get_event rfl (D := 13) rfl (E := 31) rfl Tryd.underlying31 (g := gb323) (j := x4_1) rfl (qb BK323) qo qo ?_) | ((with_reducible refine gate_callee (f := 43) rfl ?_); refine goesL_ (some 14) rfl rfl Tryd.func43 (by kernel_rfl) rfl #[.int .u32 (Ar.get 8 a0 x4_1)] rfl ql ?_; (with_reducible refine (drawlotref01_Put32.calls (Ar.get 8 a0 x4_1) t326 _ A7.out).mono ?_); rintro e w8 ⟨rfl, hb⟩; refine ⟨_, rfl, ?_⟩; replace BK323 := Aside0.mk (qB BK323 hb); replace BK324 := Aside0.mk (qB BK324 hb); replace BK325 := Aside0.mk (qB BK325 hb); replace HB := Aside0.mk (below_step (qs HB) hb); (try clear hb); (try clear hb2); (try clear hk); (try clear hi)) | ((with_reducible refine gate_dst (N := 5) rfl ?_); (try (refine gate_guard (by rfl) ?_; dsimp only)); refine qE (N := 5) (cs := (Ar.cells .u8 4 (List.replicate 4 0))) (t := 79) ?_; intro gb327 hg w9 hbox hb; have BK327 := Aside0.mk (hbox); have GW327 := Aside0.mk ((qe HB hg : w.heap.size ≤ gb327)); have GE327 := Aside0.mk ((qe HB hg : w.heap.size ≤ gb327)); replace HB := Aside0.mk (below_step (qs HB) hb); have NB323_327 := Aside0.mk ((qu BK323 hg : gb323 ≠ gb327)); have NB327_323 := Aside0.mk ((qw BK323 hg : gb327 ≠ gb323)); replace BK323 := Aside0.mk (qB BK323 hb); have NB324_327 := Aside0.mk ((qu BK324 hg : gb324 ≠ gb327)); have NB327_324 := Aside0.mk ((qw BK324 hg : gb327 ≠ gb324)); replace BK324 := Aside0.mk (qB BK324 hb); have NB325_327 := Aside0.mk ((qu BK325 hg : gb325 ≠ gb327)); have NB327_325 := Aside0.mk ((qw BK325 hg : gb327 ≠ gb325)); replace BK325 := Aside0.mk (qB BK325 hb); clear hb hbox hg) | ((with_reducible refine gate_store (t := 79) (p := 5) rfl ?_); refine Ar.store_all_event rfl rfl rfl Tryd.underlying79 (by kernel_rfl) (g := gb327) rfl (z := t326) qg (qb BK327) ?_; intro w10 hbk_ hg; replace BK323 := Aside0.mk (qG BK323 hg (fun e_ => NB323_327.out (Option.some.inj e_))); replace BK324 := Aside0.mk (qG BK324 hg (fun e_ => NB324_327.out (Option.some.inj e_))); replace BK325 := Aside0.mk (qG BK325 hg (fun e_ => NB325_327.out (Option.some.inj e_))); replace BK327 := Aside0.mk (hbk_); replace HB := Aside0.mk (Below.grown (qs HB) hg ((below_size (qs HB))) (fun _ e_ => by cases e_; exact GE327.out)); clear hbk_ hg))
     go_loopg [6] k1 (fun kq v6 w' => ∃ (x6_2 : Int) (x326000_2 : List Int), v6 = .int .i64 x6_2 ∧ Aside0 (drawlotref05_hash.l1 kq x4_1 x6_2 a0 x326000_2 t326 = some r) ∧ Aside0 (kq ≤ k1) ∧ Aside0 (w'.heap[gb323]? = some (.cells (Ar.cells .u32 8 a0) 33 (0, 0))) ∧ Aside0 (w'.heap[gb324]? = some (.cells (Ar.cells .u8 32 (List.replicate 32 0)) 26 (0, 0))) ∧ Aside0 (w'.heap[gb325]? = some (.cells (Ar.cells .u8 32 x326000_2) 26 (0, 0))) ∧ Aside0 (w'.heap[gb327]? = some (.cells (Ar.cells .u8 4 t326) 79 (0, 0))) ∧ Aside0 (Below w.heap.size w w'))
     case atStart => exact ⟨(0), (x326000_1), (by first | rfl | (simp; done) | (simp [*]; done)), H', ⟨Nat.le_refl _⟩, ⟨by (with_reducible repeat (first | refine blk_drewN ?_ _ | refine blk_drew ?_ | refine blk_alloc ?_ _)); exact BK323.out⟩, ⟨by (with_reducible repeat (first | refine blk_drewN ?_ _ | refine blk_drew ?_ | refine blk_alloc ?_ _)); exact BK324.out⟩, ⟨by (with_reducible repeat (first | refine blk_drewN ?_ _ | refine blk_drew ?_ | refine blk_alloc ?_ _)); exact BK325.out⟩, ⟨by (with_reducible repeat (first | refine blk_drewN ?_ _ | refine blk_drew ?_ | refine blk_alloc ?_ _)); exact BK327.out⟩, ⟨by repeat (first | (with_reducible first | exact HB.out | apply below_alloc | apply pw_below_drewN | apply below_drew1 | refine below_set ?_ GE323.out | refine below_set ?_ GE324.out | refine below_set ?_ GE325.out | refine below_set ?_ GE327.out) | exact HB.out)⟩⟩
     case round =>
      clear H'
      try clear c2
      try clear p2
      try clear c4
      try clear c5
      try clear c5b0
      try clear c6
      try clear c6b0
      try clear p2
      obtain ⟨x6_2, x326000_2, rfl, HA, HK2, BK323, BK324, BK325, BK327, HB⟩ := hrel
      cases gk with
      | zero => exact absurd HA.out (by simp [drawlotref05_hash.l1])
      | succ k2 =>
       have H := HA.out
       clear HA
       simp only [drawlotref05_hash.l1] at H
       by_cases c11 : x6_2 < 4
       ·rw [if_pos c11] at H
        have c11b0 : decide (x6_2 < 4) = true := decide_eq_true c11
        clear c11
        by_cases c12 : 0 ≤ x6_2
        ·rw [if_pos c12] at H
         have c12b0 : decide (0 ≤ x6_2) = true := decide_eq_true c12
         clear c12
         obtain ⟨ji13, hji13⟩ : ∃ j_ : Int, (wrap64 ((wrap64 (4 * x4_1)) + x6_2)) = j_ := ⟨_, rfl⟩
         replace H : (if 0 ≤ (ji13) then (if (ji13) < 32 then (drawlotref05_hash.l1 k2 x4_1 (wrap64 (x6_2 + 1)) a0 (Ar.set 32 x326000_2 (ji13) (Ar.get 4 t326 x6_2)) t326) else (none)) else (none)) = some r := by first | (rw [hji13] at H; exact H) | (simp only [hji13] at H ⊢; exact H)
         have hji13w : (IntKind.i64.wrap ((wrap64 (4 * x4_1)) + x6_2)) = ji13 := (i64_w _).trans hji13
         by_cases c14 : 0 ≤ (ji13)
         ·rw [if_pos c14] at H
          have c14b0 : decide (0 ≤ (ji13)) = true := decide_eq_true c14
          clear c14
          by_cases c15 : (ji13) < 32
          ·rw [if_pos c15] at H
           have c15b0 : decide ((ji13) < 32) = true := decide_eq_true c15
           clear c15
           obtain ⟨y328, hy328⟩ : ∃ y_ : List Int, y_ = (Ar.set 32 x326000_2 (ji13) (Ar.get 4 t326 x6_2)) := ⟨_, rfl⟩
           replace H : (drawlotref05_hash.l1 k2 x4_1 (wrap64 (x6_2 + 1)) a0 y328 t326) = some r := by first | (rw [hy328]; with_reducible exact H) | (have H2_ := (Option.bind_some _ _).symm.trans H; rw [hy328]; with_reducible exact H2_) | (have H2_ := (Option.bind_some _ _).symm.trans H; with_reducible exact H2_) | with_reducible exact H | (rw [hy328]; exact H) | exact H
           have Ny328 := Aside0.mk hy328
           clear hy328
           have H' := Aside0.mk H
           clear H
           go_wp2_with (first | ((with_reducible refine gate_dst (N := 24) rfl ?_); (try (refine gate_guard (by rfl) ?_; dsimp only)); refine Ar.idx_event rfl (D := 24) rfl (T := 79) (n := 4) rfl Tryd.underlying79 (by kernel_rfl) (g := gb327) rfl (j := x6_2) qg qo qo ?_) | ((with_reducible refine gate_dst (N := 25) rfl ?_); (try (refine gate_guard (by rfl) ?_; dsimp only)); refine Ar.get_event rfl (D := 25) rfl (E := 5) rfl Tryd.underlying5 (g := gb327) (j := x6_2) rfl (qb BK327) qo qo ?_) | ((with_reducible refine gate_dst (N := 26) rfl ?_); (try (refine gate_guard (by rfl) ?_; dsimp only)); refine Ar.idx_event rfl (D := 26) rfl (T := 26) (n := 32) rfl Tryd.underlying26 (by kernel_rfl) (g := gb325) rfl (j := (ji13)) qg qo qo ?_) | ((with_reducible refine gate_store (t := 5) (p := 26) rfl ?_); refine Ar.put_event rfl rfl rfl (by kernel_rfl) (g := gb325) (j := (ji13)) rfl (z := (Ar.get 4 t326 x6_2)) qg (qb BK325) qo qo ?_; intro w16 hbk_ hg; rw [← Ny328.out] at hbk_; replace BK323 := Aside0.mk (qG BK323 hg (fun e_ => NB323_325.out (Option.some.inj e_))); replace BK324 := Aside0.mk (qG BK324 hg (fun e_ => NB324_325.out (Option.some.inj e_))); replace BK327 := Aside0.mk (qG BK327 hg (fun e_ => NB327_325.out (Option.some.inj e_))); replace BK325 := Aside0.mk (hbk_); replace HB := Aside0.mk (Below.grown (qs HB) hg ((below_size (qs HB))) (fun _ e_ => by cases e_; exact GE325.out)); clear hbk_ hg))
           go_roundg k2
           case measure => have := HK1.out; have := HK2.out; omega
           case rel => exact ⟨(wrap64 (x6_2 + 1)), (y328), (by first | rfl | (simp; done) | (simp [*]; done)), H', ⟨by have := HK1.out; have := HK2.out; omega⟩, ⟨by (with_reducible repeat (first | refine blk_drewN ?_ _ | refine blk_drew ?_ | refine blk_alloc ?_ _)); exact BK323.out⟩, ⟨by (with_reducible repeat (first | refine blk_drewN ?_ _ | refine blk_drew ?_ | refine blk_alloc ?_ _)); exact BK324.out⟩, ⟨by (with_reducible repeat (first | refine blk_drewN ?_ _ | refine blk_drew ?_ | refine blk_alloc ?_ _)); exact BK325.out⟩, ⟨by (with_reducible repeat (first | refine blk_drewN ?_ _ | refine blk_drew ?_ | refine blk_alloc ?_ _)); exact BK327.out⟩, ⟨by repeat (first | (with_reducible first | exact HB.out | apply below_alloc | apply pw_below_drewN | apply below_drew1 | refine below_set ?_ GE323.out | refine below_set ?_ GE324.out | refine below_set ?_ GE325.out | refine below_set ?_ GE327.out) | exact HB.out)⟩⟩
          ·rw [if_neg c15] at H
           exact absurd H (by simp)
         ·rw [if_neg c14] at H
          exact absurd H (by simp)
        ·rw [if_neg c12] at H
         exact absurd H (by simp)
       ·rw [if_neg c11] at H
        have c11b0 : decide (x6_2 < 4) = false := decide_eq_false c11
        clear c11
        have H' := Aside0.mk H
        clear H
        go_wp2
        go_roundg k2
        case measure => have := HK1.out; have := HK2.out; omega
        case rel => exact ⟨(wrap64 (x4_1 + 1)), (x326000_2), (by first | rfl | (simp; done) | (simp [*]; done)), H', ⟨by have := HK1.out; have := HK2.out; omega⟩, ⟨by (with_reducible repeat (first | refine blk_drewN ?_ _ | refine blk_drew ?_ | refine blk_alloc ?_ _)); exact BK323.out⟩, ⟨by (with_reducible repeat (first | refine blk_drewN ?_ _ | refine blk_drew ?_ | refine blk_alloc ?_ _)); exact BK324.out⟩, ⟨by (with_reducible repeat (first | refine blk_drewN ?_ _ | refine blk_drew ?_ | refine blk_alloc ?_ _)); exact BK325.out⟩, ⟨by repeat (first | (with_reducible first | exact HB.out | apply below_alloc | apply pw_below_drewN | apply below_drew1 | refine below_set ?_ GE323.out | refine below_set ?_ GE324.out | refine below_set ?_ GE325.out | refine below_set ?_ GE327.out) | exact HB.out)⟩⟩
    ·rw [if_neg c6] at H
     exact absurd H (by simp)
   ·rw [if_neg c5] at H
    have c5b0 : decide (x4_1 < 8) = false := decide_eq_false c5
    clear c5
    obtain rfl := Option.some.inj H
    go_wp2_with (first | ((with_reducible refine gate_dst (N := 27) rfl ?_); (try (refine gate_guard (by rfl) ?_; dsimp only)); refine Ar.load_event rfl (D := 27) rfl (T := 26) rfl Tryd.underlying26 (by kernel_rfl) (g := gb325) rfl (qb BK325) ?_) | ((with_reducible refine gate_store (t := 26) (p := 2) rfl ?_); refine Ar.store_all_event rfl rfl rfl Tryd.underlying26 (by kernel_rfl) (g := gb324) rfl (z := x326000_1) qg (qb BK324) ?_; intro w17 hbk_ hg; replace BK323 := Aside0.mk (qG BK323 hg (fun e_ => NB323_324.out (Option.some.inj e_))); replace BK325 := Aside0.mk (qG BK325 hg (fun e_ => NB325_324.out (Option.some.inj e_))); replace BK324 := Aside0.mk (hbk_); replace HB := Aside0.mk (Below.grown (qs HB) hg ((below_size (qs HB))) (fun _ e_ => by cases e_; exact GE324.out)); clear hbk_ hg))
    refine bodyPost_ret (results_cell_row rfl _ _ gb324 26 (Ar.cells .u8 32 x326000_1) (0, 0) _ rfl (qb BK324) Tryd.underlying26 rfl qZ) rfl ?_
    exact ⟨by first | rfl | (simp [errW_none, errW_some] <;> rfl) | (simp [*, errW_none, errW_some] <;> rfl), by repeat (first | (with_reducible first | exact HB.out | apply below_alloc | apply pw_below_drewN | apply below_drew1 | refine below_set ?_ GE323.out | refine below_set ?_ GE324.out | refine below_set ?_ GE325.out) | exact HB.out)⟩
end Go.Proofs.YtkcdcbiobkcpmaaDoor.PA
end
section
namespace Go.Proofs.YtkcdcbiobkcpmaaDoor.PA
open Go.RowKit Go.Proofs.YtkcdcbiobkcpmaaDoorW.PrintWords Go.Proofs.YtkcdcbiobkcpmaaDoorW.PrintLast Go.Proofs.YtkcdcbiobkcpmaaDoorW.PrintMore
attribute [local go_sem] max2_int min2_int max_two min_two max_three min_three max_four min_four
set_option linter.unusedVariables false
set_option linter.unusedSimpArgs false
def drawlotref01_Get32.l0 : Nat → Int → Int → List Int → Option (Int)
 | 0, _, _, _ => none
 | k + 1, x3, x4, x330000 => if x4 < 4 then (if 0 ≤ x4 then (drawlotref01_Get32.l0 k ((((x3 * 256) % 4294967296) + ((Ar.get 4 x330000 x4) % 4294967296)) % 4294967296) (wrap64 (x4 + 1)) x330000) else (none)) else (some x3)
def drawlotref01_Get32.f (k : Nat) (a0 : List Int) : Option (Int) := drawlotref01_Get32.l0 k 0 0 a0
theorem drawlotref01_Get32.mono_l : ∀ k, (∀ y0 y1 y2, LeO (drawlotref01_Get32.l0 k y0 y1 y2) (drawlotref01_Get32.l0 (k + 1) y0 y1 y2))
 | 0 => fun _ _ _ r h => by simp [drawlotref01_Get32.l0] at h
 | k + 1 => by
  have ih0 := drawlotref01_Get32.mono_l k
  ·intro y0 y1 y2
   unfold drawlotref01_Get32.l0
   repeat' first
   | (with_reducible exact ih0 _ _ _)
   | (with_reducible exact LeO.refl _)
   | (with_reducible exact LeO.none _)
   | (with_reducible refine LeO.ite ?_ ?_)
   | (with_reducible refine LeO.bind ?_ (fun _ => ?_))
   | exact ih0 _ _ _
   | exact LeO.none _
   | refine LeO.ite ?_ ?_
   | refine LeO.bind ?_ (fun _ => ?_)
theorem drawlotref01_Get32.mono : ∀ a0 k, LeO (drawlotref01_Get32.f k a0) (drawlotref01_Get32.f (k + 1) a0) := by
 intro a0 k
 have ih0 := drawlotref01_Get32.mono_l k
 unfold drawlotref01_Get32.f
 repeat' first
   | (with_reducible exact ih0 _ _ _)
   | (with_reducible exact LeO.refl _)
   | (with_reducible exact LeO.none _)
   | (with_reducible refine LeO.ite ?_ ?_)
   | (with_reducible refine LeO.bind ?_ (fun _ => ?_))
   | exact ih0 _ _ _
   | exact LeO.none _
   | refine LeO.ite ?_ ?_
   | refine LeO.bind ?_ (fun _ => ?_)
set_option maxHeartbeats 8000000 in
set_option maxRecDepth 100000 in
theorem drawlotref01_Get32.calls (k : Nat) (a0 : List Int) (r : Int) (w : World) (h : drawlotref01_Get32.f k a0 = some r) :
  Calls Tryd.prog 73 #[.agg (Ar.cells .u8 4 a0)] w fun e w' => e = .returned (.int .u32 r) ∧ Below w.heap.size w w' := by
 have HB := Aside0.mk (Below.refl w.heap.size w)
 have H : (drawlotref01_Get32.l0 k 0 0 a0) = some r := h
 clear h
 have H' := Aside0.mk H
 clear H
 go_enter Tryd.func73, Tryd.ntmps73
 go_wp2_with (first | ((with_reducible refine gate_dst (N := 1) rfl ?_); (try (refine gate_guard (by rfl) ?_; dsimp only)); refine qE (N := 1) (cs := (Ar.cells .u8 4 a0)) (t := 79) ?_; intro gb329 hg w2 hbox hb; have BK329 := Aside0.mk (hbox); have GW329 := Aside0.mk ((qe HB hg : w.heap.size ≤ gb329)); have GE329 := Aside0.mk ((qe HB hg : w.heap.size ≤ gb329)); replace HB := Aside0.mk (below_step (qs HB) hb); clear hb hbox hg))
 go_loopg [3, 4] k (fun kq v3 v4 w' => ∃ (x3_1 : Int) (x4_1 : Int), v3 = .int .u32 x3_1 ∧ v4 = .int .i64 x4_1 ∧ Aside0 (drawlotref01_Get32.l0 kq x3_1 x4_1 a0 = some r) ∧ Aside0 (kq ≤ k) ∧ Aside0 (w'.heap[gb329]? = some (.cells (Ar.cells .u8 4 a0) 79 (0, 0))) ∧ Aside0 (Below w.heap.size w w'))
 case atStart => exact ⟨(0), (0), (by first | rfl | (simp; done) | (simp [*]; done)), (by first | rfl | (simp; done) | (simp [*]; done)), H', ⟨Nat.le_refl _⟩, ⟨by (with_reducible repeat (first | refine blk_drewN ?_ _ | refine blk_drew ?_ | refine blk_alloc ?_ _)); exact BK329.out⟩, ⟨by repeat (first | (with_reducible first | exact HB.out | apply below_alloc | apply pw_below_drewN | apply below_drew1 | refine below_set ?_ GE329.out) | exact HB.out)⟩⟩
 case round =>
  clear H'
  try clear p2
  obtain ⟨x3_1, x4_1, rfl, rfl, HA, HK1, BK329, HB⟩ := hrel
  cases gk with
  | zero => exact absurd HA.out (by simp [drawlotref01_Get32.l0])
  | succ k1 =>
   have H := HA.out
   clear HA
   simp only [drawlotref01_Get32.l0] at H
   by_cases c3 : x4_1 < 4
   ·rw [if_pos c3] at H
    have c3b0 : decide (x4_1 < 4) = true := decide_eq_true c3
    clear c3
    by_cases c4 : 0 ≤ x4_1
    ·rw [if_pos c4] at H
     have c4b0 : decide (0 ≤ x4_1) = true := decide_eq_true c4
     clear c4
     have H' := Aside0.mk H
     clear H
     go_wp2_with (first | ((with_reducible refine gate_dst (N := 12) rfl ?_); (try (refine gate_guard (by rfl) ?_; dsimp only)); refine Ar.idx_event rfl (D := 12) rfl (T := 79) (n := 4) rfl Tryd.underlying79 (by kernel_rfl) (g := gb329) rfl (j := x4_1) qg qo qo ?_) | ((with_reducible refine gate_dst (N := 13) rfl ?_); (try (refine gate_guard (by rfl) ?_; dsimp only)); refine Ar.get_event rfl (D := 13) rfl (E := 5) rfl Tryd.underlying5 (g := gb329) (j := x4_1) rfl (qb BK329) qo qo ?_))
     go_roundg k1
     case measure => have := HK1.out; omega
     case rel => exact ⟨((((x3_1 * 256) % 4294967296) + ((Ar.get 4 a0 x4_1) % 4294967296)) % 4294967296), (wrap64 (x4_1 + 1)), (by first | rfl | (simp; done) | (simp [*]; done)), (by first | rfl | (simp; done) | (simp [*]; done)), H', ⟨by have := HK1.out; omega⟩, ⟨by (with_reducible repeat (first | refine blk_drewN ?_ _ | refine blk_drew ?_ | refine blk_alloc ?_ _)); exact BK329.out⟩, ⟨by repeat (first | (with_reducible first | exact HB.out | apply below_alloc | apply pw_below_drewN | apply below_drew1 | refine below_set ?_ GE329.out) | exact HB.out)⟩⟩
    ·rw [if_neg c4] at H
     exact absurd H (by simp)
   ·rw [if_neg c3] at H
    have c3b0 : decide (x4_1 < 4) = false := decide_eq_false c3
    clear c3
    obtain rfl := Option.some.inj H
    go_wp2
    go_ret
    exact ⟨by first | rfl | (simp [errW_none, errW_some] <;> rfl) | (simp [*, errW_none, errW_some] <;> rfl), by repeat (first | (with_reducible first | exact HB.out | apply below_alloc | apply pw_below_drewN | apply below_drew1 | refine below_set ?_ GE329.out) | exact HB.out)⟩
mutual
def drawlotref01_Rotate.j0 : Nat → Int → Int → Option (Int)
 | 0, _, _ => none
 | k + 1, x0, x1 => drawlotref01_Rotate.l0 k x0 x1 0
def drawlotref01_Rotate.l0 : Nat → Int → Int → Int → Option (Int)
 | 0, _, _, _ => none
 | k + 1, x0, x1, x5 => if x5 < x1 then (drawlotref01_Rotate.l0 k ((((Int.tdiv x0 2) % 4294967296) + (((Int.tmod x0 2) * 2147483648) % 4294967296)) % 4294967296) x1 (wrap64 (x5 + 1))) else (some x0)
end
def drawlotref01_Rotate.f (k : Nat) (a0 : Int) (a1 : Int) : Option (Int) := if (Int.tmod a1 32) < 0 then (drawlotref01_Rotate.j0 k a0 (wrap64 ((Int.tmod a1 32) + 32))) else (drawlotref01_Rotate.j0 k a0 (Int.tmod a1 32))
theorem drawlotref01_Rotate.mono_l : ∀ k, (∀ y0 y1, LeO (drawlotref01_Rotate.j0 k y0 y1) (drawlotref01_Rotate.j0 (k + 1) y0 y1)) ∧ (∀ y0 y1 y2, LeO (drawlotref01_Rotate.l0 k y0 y1 y2) (drawlotref01_Rotate.l0 (k + 1) y0 y1 y2))
 | 0 => ⟨fun _ _ r h => by simp [drawlotref01_Rotate.j0] at h, fun _ _ _ r h => by simp [drawlotref01_Rotate.l0] at h⟩
 | k + 1 => by
  obtain ⟨ih0, ih1⟩ := drawlotref01_Rotate.mono_l k
  refine ⟨?_, ?_⟩
  ·intro y0 y1
   unfold drawlotref01_Rotate.j0
   repeat' first
   | (with_reducible exact ih0 _ _)
   | (with_reducible exact ih1 _ _ _)
   | (with_reducible exact LeO.refl _)
   | (with_reducible exact LeO.none _)
   | (with_reducible refine LeO.ite ?_ ?_)
   | (with_reducible refine LeO.bind ?_ (fun _ => ?_))
   | exact ih0 _ _
   | exact ih1 _ _ _
   | exact LeO.none _
   | refine LeO.ite ?_ ?_
   | refine LeO.bind ?_ (fun _ => ?_)
  ·intro y0 y1 y2
   unfold drawlotref01_Rotate.l0
   repeat' first
   | (with_reducible exact ih0 _ _)
   | (with_reducible exact ih1 _ _ _)
   | (with_reducible exact LeO.refl _)
   | (with_reducible exact LeO.none _)
   | (with_reducible refine LeO.ite ?_ ?_)
   | (with_reducible refine LeO.bind ?_ (fun _ => ?_))
   | exact ih0 _ _
   | exact ih1 _ _ _
   | exact LeO.none _
   | refine LeO.ite ?_ ?_
   | refine LeO.bind ?_ (fun _ => ?_)
theorem drawlotref01_Rotate.mono : ∀ a0 a1 k, LeO (drawlotref01_Rotate.f k a0 a1) (drawlotref01_Rotate.f (k + 1) a0 a1) := by
 intro a0 a1 k
 obtain ⟨ih0, ih1⟩ := drawlotref01_Rotate.mono_l k
 unfold drawlotref01_Rotate.f
 repeat' first
   | (with_reducible exact ih0 _ _)
   | (with_reducible exact ih1 _ _ _)
   | (with_reducible exact LeO.refl _)
   | (with_reducible exact LeO.none _)
   | (with_reducible refine LeO.ite ?_ ?_)
   | (with_reducible refine LeO.bind ?_ (fun _ => ?_))
   | exact ih0 _ _
   | exact ih1 _ _ _
   | exact LeO.none _
   | refine LeO.ite ?_ ?_
   | refine LeO.bind ?_ (fun _ => ?_)
set_option maxHeartbeats 8000000 in
set_option maxRecDepth 100000 in
theorem drawlotref01_Rotate.calls (k : Nat) (a0 : Int) (a1 : Int) (r : Int) (w : World) (h : drawlotref01_Rotate.f k a0 a1 = some r) :
  Calls Tryd.prog 87 #[.int .u32 a0, .int .i64 a1] w fun e w' => e = .returned (.int .u32 r) ∧ Drawn0 w w' := by
 have H : (if (Int.tmod a1 32) < 0 then (drawlotref01_Rotate.j0 k a0 (wrap64 ((Int.tmod a1 32) + 32))) else (drawlotref01_Rotate.j0 k a0 (Int.tmod a1 32))) = some r := h
 clear h
 have HC3 := Aside0.mk H
 clear H
 go_enter Tryd.func87, Tryd.ntmps87
 go_upto_if 9 with (fail)
 go_cut [1] (fun v1 wc => ∃ (kq : Nat) (x1_2 : Int), v1 = .int .i64 x1_2 ∧ Aside0 (drawlotref01_Rotate.j0 kq a0 x1_2 = some r) ∧ Aside0 (kq ≤ k) ∧ Drawn0 w wc)
 case first =>
  have H := HC3.out
  clear HC3
  by_cases c4 : (Int.tmod a1 32) < 0
  ·rw [if_pos c4] at H
   have c4b0 : decide ((Int.tmod a1 32) < 0) = true := decide_eq_true c4
   clear c4
   (first | rw [c4b0] | (simp only [i64_w, i32_w]; rw [c4b0]) | skip)
   have H' := Aside0.mk H
   clear H
   go_wp2
   go_meet
   case rel => exact ⟨_, (wrap64 ((Int.tmod a1 32) + 32)), (by first | rfl | (simp; done) | (simp [*]; done)), H', ⟨by first | omega | exact Nat.le_refl _⟩, by repeat (first | exact Drawn0.refl _ | apply Drawn0.step)⟩
  ·rw [if_neg c4] at H
   have c4b0 : decide ((Int.tmod a1 32) < 0) = false := decide_eq_false c4
   clear c4
   (first | rw [c4b0] | (simp only [i64_w, i32_w]; rw [c4b0]) | skip)
   have H' := Aside0.mk H
   clear H
   go_wp2
   go_meet
   case rel => exact ⟨_, (Int.tmod a1 32), (by first | rfl | (simp; done) | (simp [*]; done)), H', ⟨by first | omega | exact Nat.le_refl _⟩, by repeat (first | exact Drawn0.refl _ | apply Drawn0.step)⟩
 case rest =>
  clear HC3
  try clear p2
  try clear c4
  try clear c4b0
  obtain ⟨kq, x1_2, rfl, HA, HJ2, ⟨mc2, rfl⟩⟩ := hcut
  cases kq with
  | zero => exact absurd HA.out (by simp [drawlotref01_Rotate.j0])
  | succ kj2 =>
   have H := HA.out
   clear HA
   simp only [drawlotref01_Rotate.j0] at H
   have H' := Aside0.mk H
   clear H
   go_wp2
   go_loopg [0, 5] kj2 (fun kq v0 v5 w' => ∃ (x0_2 : Int) (x5_2 : Int), v0 = .int .u32 x0_2 ∧ v5 = .int .i64 x5_2 ∧ Aside0 (drawlotref01_Rotate.l0 kq x0_2 x1_2 x5_2 = some r) ∧ Aside0 (kq ≤ kj2) ∧ Drawn0 w w')
   case atStart => exact ⟨(a0), (0), (by first | rfl | (simp; done) | (simp [*]; done)), (by first | rfl | (simp; done) | (simp [*]; done)), H', ⟨Nat.le_refl _⟩, by repeat (first | exact Drawn0.refl _ | apply Drawn0.step)⟩
   case round =>
    clear H'
    try clear c2
    try clear p2
    try clear c4
    try clear c4b0
    try clear p2
    obtain ⟨x0_2, x5_2, rfl, rfl, HA, HK2, ⟨m2, rfl⟩⟩ := hrel
    cases gk with
    | zero => exact absurd HA.out (by simp [drawlotref01_Rotate.l0])
    | succ k2 =>
     have H := HA.out
     clear HA
     simp only [drawlotref01_Rotate.l0] at H
     by_cases c5 : x5_2 < x1_2
     ·rw [if_pos c5] at H
      have c5b0 : decide (x5_2 < x1_2) = true := decide_eq_true c5
      clear c5
      have H' := Aside0.mk H
      clear H
      go_wp2
      go_roundg k2
      case measure => have := HJ2.out; have := HK2.out; omega
      case rel => exact ⟨((((Int.tdiv x0_2 2) % 4294967296) + (((Int.tmod x0_2 2) * 2147483648) % 4294967296)) % 4294967296), (wrap64 (x5_2 + 1)), (by first | rfl | (simp; done) | (simp [*]; done)), (by first | rfl | (simp; done) | (simp [*]; done)), H', ⟨by have := HJ2.out; have := HK2.out; omega⟩, by repeat (first | exact Drawn0.refl _ | apply Drawn0.step)⟩
     ·rw [if_neg c5] at H
      have c5b0 : decide (x5_2 < x1_2) = false := decide_eq_false c5
      clear c5
      obtain rfl := Option.some.inj H
      go_wp2
      go_ret
      exact ⟨by first | rfl | (simp; done) | (simp [*]; done), by repeat (first | exact Drawn0.refl _ | apply Drawn0.step)⟩
def drawlotref01_Right.l0 : Nat → Int → Int → Int → Option (Int)
  | 0, _, _, _ => none
  | k + 1, x0, x1, x5 => if x5 < x1 then (drawlotref01_Right.l0 k ((Int.tdiv x0 2) % 4294967296) x1 (wrap64 (x5 + 1))) else (some x0)
def drawlotref01_Right.f (k : Nat) (a0 : Int) (a1 : Int) : Option (Int) := if a1 > 31 then (some 0) else (drawlotref01_Right.l0 k a0 a1 0)
theorem drawlotref01_Right.mono_l : ∀ k, (∀ y0 y1 y2, LeO (drawlotref01_Right.l0 k y0 y1 y2) (drawlotref01_Right.l0 (k + 1) y0 y1 y2))
  | 0 => fun _ _ _ r h => by simp [drawlotref01_Right.l0] at h
  | k + 1 => by
    have ih0 := drawlotref01_Right.mono_l k
    · intro y0 y1 y2
      unfold drawlotref01_Right.l0
      repeat' first
      | (with_reducible exact ih0 _ _ _)
      | (with_reducible exact LeO.refl _)
      | (with_reducible exact LeO.none _)
      | (with_reducible refine LeO.ite ?_ ?_)
      | (with_reducible refine LeO.bind ?_ (fun _ => ?_))
      | exact ih0 _ _ _
      | exact LeO.none _
      | refine LeO.ite ?_ ?_
      | refine LeO.bind ?_ (fun _ => ?_)
theorem drawlotref01_Right.mono : ∀ a0 a1 k, LeO (drawlotref01_Right.f k a0 a1) (drawlotref01_Right.f (k + 1) a0 a1) := by
  intro a0 a1 k
  have ih0 := drawlotref01_Right.mono_l k
  unfold drawlotref01_Right.f
  repeat' first
      | (with_reducible exact ih0 _ _ _)
      | (with_reducible exact LeO.refl _)
      | (with_reducible exact LeO.none _)
      | (with_reducible refine LeO.ite ?_ ?_)
      | (with_reducible refine LeO.bind ?_ (fun _ => ?_))
      | exact ih0 _ _ _
      | exact LeO.none _
      | refine LeO.ite ?_ ?_
      | refine LeO.bind ?_ (fun _ => ?_)
set_option maxHeartbeats 8000000 in
set_option maxRecDepth 100000 in
theorem drawlotref01_Right.calls (k : Nat) (a0 : Int) (a1 : Int) (r : Int) (w : World) (h : drawlotref01_Right.f k a0 a1 = some r) :
    Calls Tryd.prog 88 #[.int .u32 a0, .int .i64 a1] w fun e w' => e = .returned (.int .u32 r) ∧ Drawn0 w w' := by
  have H : (if a1 > 31 then (some 0) else (drawlotref01_Right.l0 k a0 a1 0)) = some r := h
  clear h
  by_cases c3 : a1 > 31
  · rw [if_pos c3] at H
    have c3b0 : decide (31 < a1) = true := decide_eq_true c3
    clear c3
    obtain rfl := Option.some.inj H
    go_enter Tryd.func88, Tryd.ntmps88
    go_wp2
    go_ret
    exact ⟨by first | rfl | (simp; done) | (simp [*]; done), by repeat (first | exact Drawn0.refl _ | apply Drawn0.step)⟩
  · rw [if_neg c3] at H
    have c3b0 : decide (31 < a1) = false := decide_eq_false c3
    clear c3
    have H' := Aside0.mk H
    clear H
    go_enter Tryd.func88, Tryd.ntmps88
    go_wp2
    go_loopg [0, 5] k (fun kq v0 v5 w' => ∃ (x0_1 : Int) (x5_1 : Int), v0 = .int .u32 x0_1 ∧ v5 = .int .i64 x5_1 ∧ Aside0 (drawlotref01_Right.l0 kq x0_1 a1 x5_1 = some r) ∧ Aside0 (kq ≤ k) ∧ Drawn0 w w')
    case atStart => exact ⟨(a0), (0), (by first | rfl | (simp; done) | (simp [*]; done)), (by first | rfl | (simp; done) | (simp [*]; done)), H', ⟨Nat.le_refl _⟩, by repeat (first | exact Drawn0.refl _ | apply Drawn0.step)⟩
    case round =>
      clear H'
      try clear p2
      try clear c3
      try clear c3b0
      obtain ⟨x0_1, x5_1, rfl, rfl, HA, HK1, ⟨m1, rfl⟩⟩ := hrel
      cases gk with
      | zero => exact absurd HA.out (by simp [drawlotref01_Right.l0])
      | succ k1 =>
        have H := HA.out
        clear HA
        simp only [drawlotref01_Right.l0] at H
        by_cases c4 : x5_1 < a1
        · rw [if_pos c4] at H
          have c4b0 : decide (x5_1 < a1) = true := decide_eq_true c4
          clear c4
          have H' := Aside0.mk H
          clear H
          go_wp2
          go_roundg k1
          case measure => have := HK1.out; omega
          case rel => exact ⟨((Int.tdiv x0_1 2) % 4294967296), (wrap64 (x5_1 + 1)), (by first | rfl | (simp; done) | (simp [*]; done)), (by first | rfl | (simp; done) | (simp [*]; done)), H', ⟨by have := HK1.out; omega⟩, by repeat (first | exact Drawn0.refl _ | apply Drawn0.step)⟩
        · rw [if_neg c4] at H
          have c4b0 : decide (x5_1 < a1) = false := decide_eq_false c4
          clear c4
          obtain rfl := Option.some.inj H
          go_wp2
          go_ret
          exact ⟨by first | rfl | (simp; done) | (simp [*]; done), by repeat (first | exact Drawn0.refl _ | apply Drawn0.step)⟩
def drawlotref03_Second.f (k : Nat) (a0 : Int) : Option (Int) := (drawlotref01_Rotate.f k a0 17).bind fun t330 => ((drawlotref01_Rotate.f k a0 19).bind fun t331 => ((drawlotref01_Right.f k a0 10).bind fun t332 => (some (Go.bits .xor .u32 (Go.bits .xor .u32 t330 t331) t332))))
theorem drawlotref03_Second.mono : ∀ a0 k, LeO (drawlotref03_Second.f k a0) (drawlotref03_Second.f (k + 1) a0) := by
  intro a0 k
  unfold drawlotref03_Second.f
  repeat' first
      | (with_reducible exact drawlotref01_Right.mono _ _ _)
      | (with_reducible exact drawlotref01_Rotate.mono _ _ _)
      | (with_reducible exact LeO.refl _)
      | (with_reducible exact LeO.none _)
      | (with_reducible refine LeO.ite ?_ ?_)
      | (with_reducible refine LeO.bind ?_ (fun _ => ?_))
      | exact drawlotref01_Right.mono _ _ _
      | exact drawlotref01_Rotate.mono _ _ _
      | exact LeO.none _
      | refine LeO.ite ?_ ?_
      | refine LeO.bind ?_ (fun _ => ?_)
set_option maxHeartbeats 8000000 in
set_option maxRecDepth 100000 in
theorem drawlotref03_Second.calls (k : Nat) (a0 : Int) (r : Int) (w : World) (h : drawlotref03_Second.f k a0 = some r) :
    Calls Tryd.prog 74 #[.int .u32 a0] w fun e w' => e = .returned (.int .u32 r) ∧ Drawn0 w w' := by
  have H : ((drawlotref01_Rotate.f k a0 17).bind fun t330 => ((drawlotref01_Rotate.f k a0 19).bind fun t331 => ((drawlotref01_Right.f k a0 10).bind fun t332 => (some (Go.bits .xor .u32 (Go.bits .xor .u32 t330 t331) t332))))) = some r := h
  clear h
  replace H := Option.bind_eq_some_iff.mp H
  obtain ⟨t330, A20, H⟩ := H
  replace H : ((drawlotref01_Rotate.f k a0 19).bind fun t331 => ((drawlotref01_Right.f k a0 10).bind fun t332 => (some (Go.bits .xor .u32 (Go.bits .xor .u32 t330 t331) t332)))) = some r := H
  have A2 := Aside0.mk A20
  clear A20
  replace H := Option.bind_eq_some_iff.mp H
  obtain ⟨t331, A30, H⟩ := H
  replace H : ((drawlotref01_Right.f k a0 10).bind fun t332 => (some (Go.bits .xor .u32 (Go.bits .xor .u32 t330 t331) t332))) = some r := H
  have A3 := Aside0.mk A30
  clear A30
  replace H := Option.bind_eq_some_iff.mp H
  obtain ⟨t332, A40, H⟩ := H
  replace H : (some (Go.bits .xor .u32 (Go.bits .xor .u32 t330 t331) t332)) = some r := H
  have A4 := Aside0.mk A40
  clear A40
  obtain rfl := Option.some.inj H
  go_enter Tryd.func74, Tryd.ntmps74
  go_wp2_with (first | ((with_reducible refine gate_callee (f := 87) rfl ?_); refine goesL_ (some 4) rfl rfl Tryd.func87 (by kernel_rfl) rfl #[.int .u32 a0, .int .i64 17] rfl ql ?_; (with_reducible refine (drawlotref01_Rotate.calls k a0 17 t330 _ A2.out).mono ?_); rintro e w' ⟨rfl, ⟨nd, rfl⟩⟩; refine ⟨_, rfl, ?_⟩) | ((with_reducible refine gate_callee (f := 87) rfl ?_); refine goesL_ (some 6) rfl rfl Tryd.func87 (by kernel_rfl) rfl #[.int .u32 a0, .int .i64 19] rfl ql ?_; (with_reducible refine (drawlotref01_Rotate.calls k a0 19 t331 _ A3.out).mono ?_); rintro e w' ⟨rfl, ⟨nd, rfl⟩⟩; refine ⟨_, rfl, ?_⟩) | ((with_reducible refine gate_callee (f := 88) rfl ?_); refine goesL_ (some 9) rfl rfl Tryd.func88 (by kernel_rfl) rfl #[.int .u32 a0, .int .i64 10] rfl ql ?_; (with_reducible refine (drawlotref01_Right.calls k a0 10 t332 _ A4.out).mono ?_); rintro e w' ⟨rfl, ⟨nd, rfl⟩⟩; refine ⟨_, rfl, ?_⟩))
  go_ret
  exact ⟨by first | rfl | (simp; done) | (simp [*]; done), by repeat (first | exact Drawn0.refl _ | apply Drawn0.step)⟩
def drawlotref03_First.f (k : Nat) (a0 : Int) : Option (Int) := (drawlotref01_Rotate.f k a0 7).bind fun t333 => ((drawlotref01_Rotate.f k a0 18).bind fun t334 => ((drawlotref01_Right.f k a0 3).bind fun t335 => (some (Go.bits .xor .u32 (Go.bits .xor .u32 t333 t334) t335))))
theorem drawlotref03_First.mono : ∀ a0 k, LeO (drawlotref03_First.f k a0) (drawlotref03_First.f (k + 1) a0) := by
  intro a0 k
  unfold drawlotref03_First.f
  repeat' first
      | (with_reducible exact drawlotref01_Right.mono _ _ _)
      | (with_reducible exact drawlotref01_Rotate.mono _ _ _)
      | (with_reducible exact LeO.refl _)
      | (with_reducible exact LeO.none _)
      | (with_reducible refine LeO.ite ?_ ?_)
      | (with_reducible refine LeO.bind ?_ (fun _ => ?_))
      | exact drawlotref01_Right.mono _ _ _
      | exact drawlotref01_Rotate.mono _ _ _
      | exact LeO.none _
      | refine LeO.ite ?_ ?_
      | refine LeO.bind ?_ (fun _ => ?_)
set_option maxHeartbeats 8000000 in
set_option maxRecDepth 100000 in
theorem drawlotref03_First.calls (k : Nat) (a0 : Int) (r : Int) (w : World) (h : drawlotref03_First.f k a0 = some r) :
    Calls Tryd.prog 75 #[.int .u32 a0] w fun e w' => e = .returned (.int .u32 r) ∧ Drawn0 w w' := by
  have H : ((drawlotref01_Rotate.f k a0 7).bind fun t333 => ((drawlotref01_Rotate.f k a0 18).bind fun t334 => ((drawlotref01_Right.f k a0 3).bind fun t335 => (some (Go.bits .xor .u32 (Go.bits .xor .u32 t333 t334) t335))))) = some r := h
  clear h
  replace H := Option.bind_eq_some_iff.mp H
  obtain ⟨t333, A20, H⟩ := H
  replace H : ((drawlotref01_Rotate.f k a0 18).bind fun t334 => ((drawlotref01_Right.f k a0 3).bind fun t335 => (some (Go.bits .xor .u32 (Go.bits .xor .u32 t333 t334) t335)))) = some r := H
  have A2 := Aside0.mk A20
  clear A20
  replace H := Option.bind_eq_some_iff.mp H
  obtain ⟨t334, A30, H⟩ := H
  replace H : ((drawlotref01_Right.f k a0 3).bind fun t335 => (some (Go.bits .xor .u32 (Go.bits .xor .u32 t333 t334) t335))) = some r := H
  have A3 := Aside0.mk A30
  clear A30
  replace H := Option.bind_eq_some_iff.mp H
  obtain ⟨t335, A40, H⟩ := H
  replace H : (some (Go.bits .xor .u32 (Go.bits .xor .u32 t333 t334) t335)) = some r := H
  have A4 := Aside0.mk A40
  clear A40
  obtain rfl := Option.some.inj H
  go_enter Tryd.func75, Tryd.ntmps75
  go_wp2_with (first | ((with_reducible refine gate_callee (f := 87) rfl ?_); refine goesL_ (some 4) rfl rfl Tryd.func87 (by kernel_rfl) rfl #[.int .u32 a0, .int .i64 7] rfl ql ?_; (with_reducible refine (drawlotref01_Rotate.calls k a0 7 t333 _ A2.out).mono ?_); rintro e w' ⟨rfl, ⟨nd, rfl⟩⟩; refine ⟨_, rfl, ?_⟩) | ((with_reducible refine gate_callee (f := 87) rfl ?_); refine goesL_ (some 6) rfl rfl Tryd.func87 (by kernel_rfl) rfl #[.int .u32 a0, .int .i64 18] rfl ql ?_; (with_reducible refine (drawlotref01_Rotate.calls k a0 18 t334 _ A3.out).mono ?_); rintro e w' ⟨rfl, ⟨nd, rfl⟩⟩; refine ⟨_, rfl, ?_⟩) | ((with_reducible refine gate_callee (f := 88) rfl ?_); refine goesL_ (some 9) rfl rfl Tryd.func88 (by kernel_rfl) rfl #[.int .u32 a0, .int .i64 3] rfl ql ?_; (with_reducible refine (drawlotref01_Right.calls k a0 3 t335 _ A4.out).mono ?_); rintro e w' ⟨rfl, ⟨nd, rfl⟩⟩; refine ⟨_, rfl, ?_⟩))
  go_ret
  exact ⟨by first | rfl | (simp; done) | (simp [*]; done), by repeat (first | exact Drawn0.refl _ | apply Drawn0.step)⟩
end Go.Proofs.YtkcdcbiobkcpmaaDoor.PA
end
section
namespace Go.Proofs.YtkcdcbiobkcpmaaDoor.PA
open Go.RowKit Go.Proofs.YtkcdcbiobkcpmaaDoorW.PrintWords Go.Proofs.YtkcdcbiobkcpmaaDoorW.PrintLast Go.Proofs.YtkcdcbiobkcpmaaDoorW.PrintMore
attribute [local go_sem] max2_int min2_int max_two min_two max_three min_three max_four min_four
set_option linter.unusedVariables false
set_option linter.unusedSimpArgs false
mutual
def drawlotref03_Of.l0 : Nat → Int → List Int → List Int → Option (List Int)
 | 0, _, _, _ => none
 | k + 1, x4, x337000, x339000 => if x4 < 16 then (if 0 ≤ (wrap64 (4 * x4)) then (if (wrap64 (4 * x4)) < 64 then (if 0 ≤ (wrap64 ((wrap64 (4 * x4)) + 1)) then (if (wrap64 ((wrap64 (4 * x4)) + 1)) < 64 then (if 0 ≤ (wrap64 ((wrap64 (4 * x4)) + 2)) then (if (wrap64 ((wrap64 (4 * x4)) + 2)) < 64 then (if 0 ≤ (wrap64 ((wrap64 (4 * x4)) + 3)) then (if (wrap64 ((wrap64 (4 * x4)) + 3)) < 64 then ((drawlotref01_Get32.f k [Ar.get 64 x337000 (wrap64 (4 * x4)), Ar.get 64 x337000 (wrap64 ((wrap64 (4 * x4)) + 1)), Ar.get 64 x337000 (wrap64 ((wrap64 (4 * x4)) + 2)), Ar.get 64 x337000 (wrap64 ((wrap64 (4 * x4)) + 3))]).bind fun t339 => (if 0 ≤ x4 then (if x4 < 64 then (drawlotref03_Of.l0 k (wrap64 (x4 + 1)) x337000 (Ar.set 64 x339000 x4 t339)) else (none)) else (none))) else (none)) else (none)) else (none)) else (none)) else (none)) else (none)) else (none)) else (none)) else (drawlotref03_Of.l1 k 16 x339000)
def drawlotref03_Of.l1 : Nat → Int → List Int → Option (List Int)
 | 0, _, _ => none
 | k + 1, x5, x339000 => if x5 < 64 then (if 0 ≤ (wrap64 (x5 - 2)) then (if (wrap64 (x5 - 2)) < 64 then ((drawlotref03_Second.f k (Ar.get 64 x339000 (wrap64 (x5 - 2)))).bind fun t341 => (if 0 ≤ (wrap64 (x5 - 7)) then (if (wrap64 (x5 - 7)) < 64 then (if 0 ≤ (wrap64 (x5 - 15)) then (if (wrap64 (x5 - 15)) < 64 then ((drawlotref03_First.f k (Ar.get 64 x339000 (wrap64 (x5 - 15)))).bind fun t342 => (if 0 ≤ (wrap64 (x5 - 16)) then (if (wrap64 (x5 - 16)) < 64 then (if 0 ≤ x5 then (drawlotref03_Of.l1 k (wrap64 (x5 + 1)) (Ar.set 64 x339000 x5 ((((((t341 + (Ar.get 64 x339000 (wrap64 (x5 - 7)))) % 4294967296) + t342) % 4294967296) + (Ar.get 64 x339000 (wrap64 (x5 - 16)))) % 4294967296))) else (none)) else (none)) else (none))) else (none)) else (none)) else (none)) else (none))) else (none)) else (none)) else (some x339000)
end
def drawlotref03_Of.f (k : Nat) (a0 : List Int) : Option (List Int) := drawlotref03_Of.l0 k 0 a0 (List.replicate 64 0)
theorem drawlotref03_Of.mono_l : ∀ k, (∀ y0 y1 y2, LeO (drawlotref03_Of.l0 k y0 y1 y2) (drawlotref03_Of.l0 (k + 1) y0 y1 y2)) ∧ (∀ y0 y1, LeO (drawlotref03_Of.l1 k y0 y1) (drawlotref03_Of.l1 (k + 1) y0 y1))
 | 0 => ⟨fun _ _ _ r h => by simp [drawlotref03_Of.l0] at h, fun _ _ r h => by simp [drawlotref03_Of.l1] at h⟩
 | k + 1 => by
  obtain ⟨ih0, ih1⟩ := drawlotref03_Of.mono_l k
  refine ⟨?_, ?_⟩
  ·intro y0 y1 y2
   unfold drawlotref03_Of.l0
   repeat' first
   | (with_reducible exact ih0 _ _ _)
   | (with_reducible exact ih1 _ _)
   | (with_reducible exact drawlotref01_Get32.mono _ _)
   | (with_reducible exact drawlotref03_First.mono _ _)
   | (with_reducible exact drawlotref03_Second.mono _ _)
   | (with_reducible exact LeO.refl _)
   | (with_reducible exact LeO.none _)
   | (with_reducible refine LeO.ite ?_ ?_)
   | (with_reducible refine LeO.bind ?_ (fun _ => ?_))
   | exact ih0 _ _ _
   | exact ih1 _ _
   | exact drawlotref01_Get32.mono _ _
   | exact drawlotref03_First.mono _ _
   | exact drawlotref03_Second.mono _ _
   | exact LeO.none _
   | refine LeO.ite ?_ ?_
   | refine LeO.bind ?_ (fun _ => ?_)
  ·intro y0 y1
   unfold drawlotref03_Of.l1
   repeat' first
   | (with_reducible exact ih0 _ _ _)
   | (with_reducible exact ih1 _ _)
   | (with_reducible exact drawlotref01_Get32.mono _ _)
   | (with_reducible exact drawlotref03_First.mono _ _)
   | (with_reducible exact drawlotref03_Second.mono _ _)
   | (with_reducible exact LeO.refl _)
   | (with_reducible exact LeO.none _)
   | (with_reducible refine LeO.ite ?_ ?_)
   | (with_reducible refine LeO.bind ?_ (fun _ => ?_))
   | exact ih0 _ _ _
   | exact ih1 _ _
   | exact drawlotref01_Get32.mono _ _
   | exact drawlotref03_First.mono _ _
   | exact drawlotref03_Second.mono _ _
   | exact LeO.none _
   | refine LeO.ite ?_ ?_
   | refine LeO.bind ?_ (fun _ => ?_)
theorem drawlotref03_Of.mono : ∀ a0 k, LeO (drawlotref03_Of.f k a0) (drawlotref03_Of.f (k + 1) a0) := by
 intro a0 k
 obtain ⟨ih0, ih1⟩ := drawlotref03_Of.mono_l k
 unfold drawlotref03_Of.f
 repeat' first
   | (with_reducible exact ih0 _ _ _)
   | (with_reducible exact ih1 _ _)
   | (with_reducible exact drawlotref01_Get32.mono _ _)
   | (with_reducible exact drawlotref03_First.mono _ _)
   | (with_reducible exact drawlotref03_Second.mono _ _)
   | (with_reducible exact LeO.refl _)
   | (with_reducible exact LeO.none _)
   | (with_reducible refine LeO.ite ?_ ?_)
   | (with_reducible refine LeO.bind ?_ (fun _ => ?_))
   | exact ih0 _ _ _
   | exact ih1 _ _
   | exact drawlotref01_Get32.mono _ _
   | exact drawlotref03_First.mono _ _
   | exact drawlotref03_Second.mono _ _
   | exact LeO.none _
   | refine LeO.ite ?_ ?_
   | refine LeO.bind ?_ (fun _ => ?_)
def drawlotref03_Of.T5 : Bool × List (List Nat × List Nat) := (true, [([], []), ([], []), ([1], [1]), ([2], [2]), ([3], [3]), ([], []), ([5], [5]), ([6], [6]), ([7], [7]), ([8], [8]), ([], []), ([10], [10]), ([11], [11]), ([12], [12]), ([13], [13]), ([], []), ([15], [15]), ([16], [16]), ([17], [17]), ([18], [18]), ([4, 9, 14, 19], [4, 9, 14, 19]), ([20], [20]), ([0, 0, 1, 2, 3, 4, 5, 6, 7, 8, 9, 10, 11, 12, 13, 14, 15, 16, 17, 18, 19, 20, 21], [0]), ([22, 21, 21, 0, 1, 2, 3, 4, 5, 6, 7, 8, 9, 10, 11, 12, 13, 14, 15, 16, 17, 18, 19, 20, 21], [21, 22])])
def drawlotref03_Of.B5 : List Nat := [0, 0, 2, 6, 14, 0, 32, 96, 224, 480, 0, 1024, 3072, 7168, 15360, 0, 32768, 98304, 229376, 491520, 1048574, 2097150, 4194303, 8388607]
theorem drawlotref03_Of.tab5 : rtab .any (opsOf Tryd.f61 5) = drawlotref03_Of.T5 := by kernel_rfl
theorem drawlotref03_Of.bits5 : waitsOk drawlotref03_Of.T5.2 drawlotref03_Of.B5 = true := by kernel_rfl
def drawlotref03_Of.T9 : Bool × List (List Nat × List Nat) := (true, [([], []), ([], []), ([1], [1]), ([2], [2]), ([3], [3]), ([4], [4]), ([], []), ([6], [6]), ([7], [7]), ([8], [8]), ([5, 9], [5, 9]), ([], []), ([11], [11]), ([12], [12]), ([13], [13]), ([14, 5], [14]), ([10, 15], [10, 15]), ([], []), ([17], [17]), ([18], [18]), ([19], [19]), ([16, 20], [16, 20]), ([0, 0, 1, 2, 3, 4, 5, 6, 7, 8, 9, 10, 11, 12, 13, 14, 15, 16, 17, 18, 19, 20, 21], [0]), ([22, 21, 15, 0, 1, 2, 3, 4, 5, 6, 7, 8, 9, 10, 11, 12, 13, 14, 15, 16, 17, 18, 19, 20, 21], [21, 22])])
def drawlotref03_Of.B9 : List Nat := [0, 0, 2, 6, 14, 30, 0, 64, 192, 448, 1022, 0, 2048, 6144, 14336, 30782, 65534, 0, 131072, 393216, 917504, 2097150, 4194303, 8388607]
theorem drawlotref03_Of.tab9 : rtab .any (opsOf Tryd.f61 9) = drawlotref03_Of.T9 := by kernel_rfl
theorem drawlotref03_Of.bits9 : waitsOk drawlotref03_Of.T9.2 drawlotref03_Of.B9 = true := by kernel_rfl
set_option maxHeartbeats 8000000 in
set_option maxRecDepth 100000 in
theorem drawlotref03_Of.calls (k : Nat) (a0 : List Int) (r : List Int) (w : World) (h : drawlotref03_Of.f k a0 = some r) :
  Calls Tryd.prog 61 #[.agg (Ar.cells .u8 64 a0)] w fun e w' => e = .returned (.agg (Ar.cells .u32 64 r)) ∧ Below w.heap.size w w' := by
 have HB := Aside0.mk (Below.refl w.heap.size w)
 have H : (drawlotref03_Of.l0 k 0 a0 (List.replicate 64 0)) = some r := h
 clear h
 have H' := Aside0.mk H
 clear H
 go_enter Tryd.func61, Tryd.ntmps61
 go_wp2_with (first | ((with_reducible refine gate_dst (N := 1) rfl ?_); (try (refine gate_guard (by rfl) ?_; dsimp only)); refine qE (N := 1) (cs := (Ar.cells .u8 64 a0)) (t := 78) ?_; intro gb336 hg w2 hbox hb; have BK336 := Aside0.mk (hbox); have GW336 := Aside0.mk ((qe HB hg : w.heap.size ≤ gb336)); have GE336 := Aside0.mk ((qe HB hg : w.heap.size ≤ gb336)); replace HB := Aside0.mk (below_step (qs HB) hb); clear hb hbox hg) | ((with_reducible refine gate_dst (N := 2) rfl ?_); (try (refine gate_guard (by rfl) ?_; dsimp only)); refine qE (N := 2) (cs := (Ar.cells .u32 64 (List.replicate 64 0))) (t := 95) ?_; intro gb337 hg w3 hbox hb; have BK337 := Aside0.mk (hbox); have GW337 := Aside0.mk ((qe HB hg : w.heap.size ≤ gb337)); have GE337 := Aside0.mk ((qe HB hg : w.heap.size ≤ gb337)); replace HB := Aside0.mk (below_step (qs HB) hb); have NB336_337 := Aside0.mk ((qu BK336 hg : gb336 ≠ gb337)); have NB337_336 := Aside0.mk ((qw BK336 hg : gb337 ≠ gb336)); replace BK336 := Aside0.mk (qB BK336 hb); clear hb hbox hg) | ((with_reducible refine gate_dst (N := 3) rfl ?_); (try (refine gate_guard (by rfl) ?_; dsimp only)); refine qE (N := 3) (cs := (Ar.cells .u32 64 (List.replicate 64 0))) (t := 95) ?_; intro gb338 hg w4 hbox hb; have BK338 := Aside0.mk (hbox); have GW338 := Aside0.mk ((qe HB hg : w.heap.size ≤ gb338)); have GE338 := Aside0.mk ((qe HB hg : w.heap.size ≤ gb338)); replace HB := Aside0.mk (below_step (qs HB) hb); have NB336_338 := Aside0.mk ((qu BK336 hg : gb336 ≠ gb338)); have NB338_336 := Aside0.mk ((qw BK336 hg : gb338 ≠ gb336)); replace BK336 := Aside0.mk (qB BK336 hb); have NB337_338 := Aside0.mk ((qu BK337 hg : gb337 ≠ gb338)); have NB338_337 := Aside0.mk ((qw BK337 hg : gb338 ≠ gb337)); replace BK337 := Aside0.mk (qB BK337 hb); clear hb hbox hg))
 go_loopg [4] k (fun kq v4 w' => ∃ (x4_1 : Int) (x339000_1 : List Int), v4 = .int .i64 x4_1 ∧ Aside0 (drawlotref03_Of.l0 kq x4_1 a0 x339000_1 = some r) ∧ Aside0 (kq ≤ k) ∧ Aside0 (w'.heap[gb336]? = some (.cells (Ar.cells .u8 64 a0) 78 (0, 0))) ∧ Aside0 (w'.heap[gb337]? = some (.cells (Ar.cells .u32 64 (List.replicate 64 0)) 95 (0, 0))) ∧ Aside0 (w'.heap[gb338]? = some (.cells (Ar.cells .u32 64 x339000_1) 95 (0, 0))) ∧ Aside0 (Below w.heap.size w w'))
 case atStart => exact ⟨(0), ((List.replicate 64 0)), (by first | rfl | (simp; done) | (simp [*]; done)), H', ⟨Nat.le_refl _⟩, ⟨by (with_reducible repeat (first | refine blk_drewN ?_ _ | refine blk_drew ?_ | refine blk_alloc ?_ _)); exact BK336.out⟩, ⟨by (with_reducible repeat (first | refine blk_drewN ?_ _ | refine blk_drew ?_ | refine blk_alloc ?_ _)); exact BK337.out⟩, ⟨by (with_reducible repeat (first | refine blk_drewN ?_ _ | refine blk_drew ?_ | refine blk_alloc ?_ _)); exact BK338.out⟩, ⟨by repeat (first | (with_reducible first | exact HB.out | apply below_alloc | apply pw_below_drewN | apply below_drew1 | refine below_set ?_ GE336.out | refine below_set ?_ GE337.out | refine below_set ?_ GE338.out) | exact HB.out)⟩⟩
 case round =>
  clear H'
  try clear p2
  obtain ⟨x4_1, x339000_1, rfl, HA, HK1, BK336, BK337, BK338, HB⟩ := hrel
  cases gk with
  | zero => exact absurd HA.out (by simp [drawlotref03_Of.l0])
  | succ k1 =>
   have H := HA.out
   clear HA
   simp only [drawlotref03_Of.l0] at H
   by_cases c5 : x4_1 < 16
   ·rw [if_pos c5] at H
    have c5b0 : decide (x4_1 < 16) = true := decide_eq_true c5
    clear c5
    obtain ⟨ji6, hji6⟩ : ∃ j_ : Int, (wrap64 (4 * x4_1)) = j_ := ⟨_, rfl⟩
    replace H : (if 0 ≤ (ji6) then (if (ji6) < 64 then (if 0 ≤ (wrap64 ((ji6) + 1)) then (if (wrap64 ((ji6) + 1)) < 64 then (if 0 ≤ (wrap64 ((ji6) + 2)) then (if (wrap64 ((ji6) + 2)) < 64 then (if 0 ≤ (wrap64 ((ji6) + 3)) then (if (wrap64 ((ji6) + 3)) < 64 then ((drawlotref01_Get32.f k1 [Ar.get 64 a0 (ji6), Ar.get 64 a0 (wrap64 ((ji6) + 1)), Ar.get 64 a0 (wrap64 ((ji6) + 2)), Ar.get 64 a0 (wrap64 ((ji6) + 3))]).bind fun t339 => (if 0 ≤ x4_1 then (if x4_1 < 64 then (drawlotref03_Of.l0 k1 (wrap64 (x4_1 + 1)) a0 (Ar.set 64 x339000_1 x4_1 t339)) else (none)) else (none))) else (none)) else (none)) else (none)) else (none)) else (none)) else (none)) else (none)) else (none)) = some r := by first | (rw [hji6] at H; exact H) | (simp only [hji6] at H ⊢; exact H)
    have hji6w : (IntKind.i64.wrap (4 * x4_1)) = ji6 := (i64_w _).trans hji6
    by_cases c7 : 0 ≤ (ji6)
    ·rw [if_pos c7] at H
     have c7b0 : decide (0 ≤ (ji6)) = true := decide_eq_true c7
     clear c7
     by_cases c8 : (ji6) < 64
     ·rw [if_pos c8] at H
      have c8b0 : decide ((ji6) < 64) = true := decide_eq_true c8
      clear c8
      obtain ⟨ji9, hji9⟩ : ∃ j_ : Int, (wrap64 ((ji6) + 1)) = j_ := ⟨_, rfl⟩
      replace H : (if 0 ≤ (ji9) then (if (ji9) < 64 then (if 0 ≤ (wrap64 ((ji6) + 2)) then (if (wrap64 ((ji6) + 2)) < 64 then (if 0 ≤ (wrap64 ((ji6) + 3)) then (if (wrap64 ((ji6) + 3)) < 64 then ((drawlotref01_Get32.f k1 [Ar.get 64 a0 (ji6), Ar.get 64 a0 (ji9), Ar.get 64 a0 (wrap64 ((ji6) + 2)), Ar.get 64 a0 (wrap64 ((ji6) + 3))]).bind fun t339 => (if 0 ≤ x4_1 then (if x4_1 < 64 then (drawlotref03_Of.l0 k1 (wrap64 (x4_1 + 1)) a0 (Ar.set 64 x339000_1 x4_1 t339)) else (none)) else (none))) else (none)) else (none)) else (none)) else (none)) else (none)) else (none)) = some r := by first | (rw [hji9] at H; exact H) | (simp only [hji9] at H ⊢; exact H)
      have hji9w : (IntKind.i64.wrap ((ji6) + 1)) = ji9 := (i64_w _).trans hji9
      by_cases c10 : 0 ≤ (ji9)
      ·rw [if_pos c10] at H
       have c10b0 : decide (0 ≤ (ji9)) = true := decide_eq_true c10
       clear c10
       by_cases c11 : (ji9) < 64
       ·rw [if_pos c11] at H
        have c11b0 : decide ((ji9) < 64) = true := decide_eq_true c11
        clear c11
        obtain ⟨ji12, hji12⟩ : ∃ j_ : Int, (wrap64 ((ji6) + 2)) = j_ := ⟨_, rfl⟩
        replace H : (if 0 ≤ (ji12) then (if (ji12) < 64 then (if 0 ≤ (wrap64 ((ji6) + 3)) then (if (wrap64 ((ji6) + 3)) < 64 then ((drawlotref01_Get32.f k1 [Ar.get 64 a0 (ji6), Ar.get 64 a0 (ji9), Ar.get 64 a0 (ji12), Ar.get 64 a0 (wrap64 ((ji6) + 3))]).bind fun t339 => (if 0 ≤ x4_1 then (if x4_1 < 64 then (drawlotref03_Of.l0 k1 (wrap64 (x4_1 + 1)) a0 (Ar.set 64 x339000_1 x4_1 t339)) else (none)) else (none))) else (none)) else (none)) else (none)) else (none)) = some r := by first | (rw [hji12] at H; exact H) | (simp only [hji12] at H ⊢; exact H)
        have hji12w : (IntKind.i64.wrap ((ji6) + 2)) = ji12 := (i64_w _).trans hji12
        by_cases c13 : 0 ≤ (ji12)
        ·rw [if_pos c13] at H
         have c13b0 : decide (0 ≤ (ji12)) = true := decide_eq_true c13
         clear c13
         by_cases c14 : (ji12) < 64
         ·rw [if_pos c14] at H
          have c14b0 : decide ((ji12) < 64) = true := decide_eq_true c14
          clear c14
          obtain ⟨ji15, hji15⟩ : ∃ j_ : Int, (wrap64 ((ji6) + 3)) = j_ := ⟨_, rfl⟩
          replace H : (if 0 ≤ (ji15) then (if (ji15) < 64 then ((drawlotref01_Get32.f k1 [Ar.get 64 a0 (ji6), Ar.get 64 a0 (ji9), Ar.get 64 a0 (ji12), Ar.get 64 a0 (ji15)]).bind fun t339 => (if 0 ≤ x4_1 then (if x4_1 < 64 then (drawlotref03_Of.l0 k1 (wrap64 (x4_1 + 1)) a0 (Ar.set 64 x339000_1 x4_1 t339)) else (none)) else (none))) else (none)) else (none)) = some r := by first | (rw [hji15] at H; exact H) | (simp only [hji15] at H ⊢; exact H)
          have hji15w : (IntKind.i64.wrap ((ji6) + 3)) = ji15 := (i64_w _).trans hji15
          by_cases c16 : 0 ≤ (ji15)
          ·rw [if_pos c16] at H
           have c16b0 : decide (0 ≤ (ji15)) = true := decide_eq_true c16
           clear c16
           by_cases c17 : (ji15) < 64
           ·rw [if_pos c17] at H
            have c17b0 : decide ((ji15) < 64) = true := decide_eq_true c17
            clear c17
            replace H := Option.bind_eq_some_iff.mp H
            obtain ⟨t339, A180, H⟩ := H
            replace H : (if 0 ≤ x4_1 then (if x4_1 < 64 then (drawlotref03_Of.l0 k1 (wrap64 (x4_1 + 1)) a0 (Ar.set 64 x339000_1 x4_1 t339)) else (none)) else (none)) = some r := H
            have A18 := Aside0.mk A180
            clear A180
            by_cases c19 : 0 ≤ x4_1
            ·rw [if_pos c19] at H
             have c19b0 : decide (0 ≤ x4_1) = true := decide_eq_true c19
             clear c19
             by_cases c20 : x4_1 < 64
             ·rw [if_pos c20] at H
              have c20b0 : decide (x4_1 < 64) = true := decide_eq_true c20
              clear c20
              obtain ⟨y340, hy340⟩ : ∃ y_ : List Int, y_ = (Ar.set 64 x339000_1 x4_1 t339) := ⟨_, rfl⟩
              replace H : (drawlotref03_Of.l0 k1 (wrap64 (x4_1 + 1)) a0 y340) = some r := by first | (rw [hy340]; with_reducible exact H) | (have H2_ := (Option.bind_some _ _).symm.trans H; rw [hy340]; with_reducible exact H2_) | (have H2_ := (Option.bind_some _ _).symm.trans H; with_reducible exact H2_) | with_reducible exact H | (rw [hy340]; exact H) | exact H
              have Ny340 := Aside0.mk hy340
              clear hy340
              have H' := Aside0.mk H
              clear H
              try go_wp2
              replace BK336 := Aside0.mk (blk_drew BK336.out)
              replace BK337 := Aside0.mk (blk_drew BK337.out)
              replace BK338 := Aside0.mk (blk_drew BK338.out)
              replace HB := Aside0.mk (below_drew1 HB.out)
              have p22 : (0 ≤ ((ji6) : Int)) = True := eq_true qo
              have q22 : (((ji6) : Int) < 64) = True := eq_true qo
              have p23 : (0 ≤ ((ji9) : Int)) = True := eq_true qo
              have q23 : (((ji9) : Int) < 64) = True := eq_true qo
              have p24 : (0 ≤ ((ji12) : Int)) = True := eq_true qo
              have q24 : (((ji12) : Int) < 64) = True := eq_true qo
              have p25 : (0 ≤ ((ji15) : Int)) = True := eq_true qo
              have q25 : (((ji15) : Int) < 64) = True := eq_true qo
              refine start_ (n := 24) (S := fun w' => w'.cell? ⟨gb336, ((ji6) : Int).toNat, none⟩ = some (.int .u8 (Ar.get 64 a0 (ji6))) ∧ w'.cell? ⟨gb336, ((ji9) : Int).toNat, none⟩ = some (.int .u8 (Ar.get 64 a0 (ji9))) ∧ w'.cell? ⟨gb336, ((ji12) : Int).toNat, none⟩ = some (.int .u8 (Ar.get 64 a0 (ji12))) ∧ w'.cell? ⟨gb336, ((ji15) : Int).toNat, none⟩ = some (.int .u8 (Ar.get 64 a0 (ji15)))) (ds := []) #[false, false, false, false, false, false, false, false, false, false, false, false, false, false, false, false, false, false, false, false, false, false, false, false] (by kernel_rfl) rfl rfl ⟨(Ar.cell_run (j := (ji6)) BK336.out qo qo), (Ar.cell_run (j := (ji9)) BK336.out qo qo), (Ar.cell_run (j := (ji12)) BK336.out qo qo), (Ar.cell_run (j := (ji15)) BK336.out qo qo)⟩ (fun hHeld => ?_); refine with_tabW drawlotref03_Of.tab5 drawlotref03_Of.bits5 (fun HT_ HW_ => ?_)
              generalize wr.drew = w21 at BK336 BK337 BK338 HB hHeld ⊢
              refine pure_ (i := 0) (N := some 10) (v := ?_) (a' := ?_) #[true, false, false, false, false, false, false, false, false, false, false, false, false, false, false, false, false, false, false, false, false, false, false, false] rfl rfl (any_of HT_.out (by kernel_rfl)) (fun _ _ _ h => h) (Or.inl ⟨by rfl, ?_⟩) ?_ ?_
              rotate_left
              ·intro w'
               go_simp
               with_reducible rfl
              rotate_left
              ·simp only [Act.put, zA_, zB_, zC_, i64_w, i32_w]
               rfl
              refine pure_ (i := 1) (N := some 11) (v := ?_) (a' := ?_) #[true, true, false, false, false, false, false, false, false, false, false, false, false, false, false, false, false, false, false, false, false, false, false, false] rfl rfl (any_of HT_.out (by kernel_rfl)) (fun _ _ _ h => h) (Or.inl ⟨by rfl, ?_⟩) ?_ ?_
              rotate_left
              ·intro w'
               go_simp
               with_reducible rfl
              rotate_left
              ·simp only [Act.put, zA_, zB_, zC_, i64_w, i32_w]
               rfl
              refine pure_ (i := 2) (N := some 12) (v := ?_) (a' := ?_) #[true, true, true, false, false, false, false, false, false, false, false, false, false, false, false, false, false, false, false, false, false, false, false, false] rfl rfl (any_of HT_.out (by kernel_rfl)) (fun _ _ _ h => h) (Or.inl ⟨by rfl, ?_⟩) ?_ ?_
              rotate_left
              ·intro w'
               go_simp
               with_reducible rfl
              rotate_left
              ·simp only [Act.put, zA_, zB_, zC_, i64_w, i32_w]
               rfl
              refine pure_ (i := 3) (N := some 13) (v := ?_) (a' := ?_) #[true, true, true, true, false, false, false, false, false, false, false, false, false, false, false, false, false, false, false, false, false, false, false, false] rfl rfl (any_of HT_.out (by kernel_rfl)) (fun _ _ _ h => h) (Or.inl ⟨by rfl, ?_⟩) ?_ ?_
              rotate_left
              ·intro w'
               go_simp
               with_reducible rfl
              rotate_left
              ·simp only [Act.put, zA_, zB_, zC_, i64_w, i32_w]
               rfl
              refine pure_ (i := 5) (N := some 15) (v := ?_) (a' := ?_) #[true, true, true, true, false, true, false, false, false, false, false, false, false, false, false, false, false, false, false, false, false, false, false, false] rfl rfl (any_of HT_.out (by kernel_rfl)) (fun _ _ _ h => h) (Or.inl ⟨by rfl, ?_⟩) ?_ ?_
              rotate_left
              ·intro w'
               go_simp
               with_reducible rfl
              rotate_left
              ·simp only [Act.put, zA_, zB_, zC_, i64_w, i32_w]
               rfl
              refine pure_ (i := 6) (N := some 16) (v := ?_) (a' := ?_) #[true, true, true, true, false, true, true, false, false, false, false, false, false, false, false, false, false, false, false, false, false, false, false, false] rfl rfl (any_of HT_.out (by kernel_rfl)) (fun _ _ _ h => h) (Or.inl ⟨by rfl, ?_⟩) ?_ ?_
              rotate_left
              ·intro w'
               go_simp
               with_reducible rfl
              rotate_left
              ·simp only [Act.put, zA_, zB_, zC_, i64_w, i32_w]
               rfl
              refine pure_ (i := 7) (N := some 17) (v := ?_) (a' := ?_) #[true, true, true, true, false, true, true, true, false, false, false, false, false, false, false, false, false, false, false, false, false, false, false, false] rfl rfl (any_of HT_.out (by kernel_rfl)) (fun _ _ _ h => h) (Or.inl ⟨by rfl, ?_⟩) ?_ ?_
              rotate_left
              ·intro w'
               go_simp
               with_reducible rfl
              rotate_left
              ·simp only [Act.put, zA_, zB_, zC_, i64_w, i32_w]
               rfl
              refine pure_ (i := 8) (N := some 18) (v := ?_) (a' := ?_) #[true, true, true, true, false, true, true, true, true, false, false, false, false, false, false, false, false, false, false, false, false, false, false, false] rfl rfl (any_of HT_.out (by kernel_rfl)) (fun _ _ _ h => h) (Or.inl ⟨by rfl, ?_⟩) ?_ ?_
              rotate_left
              ·intro w'
               go_simp
               with_reducible rfl
              rotate_left
              ·simp only [Act.put, zA_, zB_, zC_, i64_w, i32_w]
               rfl
              refine pure_ (i := 10) (N := some 20) (v := ?_) (a' := ?_) #[true, true, true, true, false, true, true, true, true, false, true, false, false, false, false, false, false, false, false, false, false, false, false, false] rfl rfl (any_of HT_.out (by kernel_rfl)) (fun _ _ _ h => h) (Or.inl ⟨by rfl, ?_⟩) ?_ ?_
              rotate_left
              ·intro w'
               go_simp
               with_reducible rfl
              rotate_left
              ·simp only [Act.put, zA_, zB_, zC_, i64_w, i32_w]
               rfl
              refine pure_ (i := 11) (N := some 21) (v := ?_) (a' := ?_) #[true, true, true, true, false, true, true, true, true, false, true, true, false, false, false, false, false, false, false, false, false, false, false, false] rfl rfl (any_of HT_.out (by kernel_rfl)) (fun _ _ _ h => h) (Or.inl ⟨by rfl, ?_⟩) ?_ ?_
              rotate_left
              ·intro w'
               go_simp
               with_reducible rfl
              rotate_left
              ·simp only [Act.put, zA_, zB_, zC_, i64_w, i32_w]
               rfl
              refine pure_ (i := 12) (N := some 22) (v := ?_) (a' := ?_) #[true, true, true, true, false, true, true, true, true, false, true, true, true, false, false, false, false, false, false, false, false, false, false, false] rfl rfl (any_of HT_.out (by kernel_rfl)) (fun _ _ _ h => h) (Or.inl ⟨by rfl, ?_⟩) ?_ ?_
              rotate_left
              ·intro w'
               go_simp
               with_reducible rfl
              rotate_left
              ·simp only [Act.put, zA_, zB_, zC_, i64_w, i32_w]
               rfl
              refine pure_ (i := 13) (N := some 23) (v := ?_) (a' := ?_) #[true, true, true, true, false, true, true, true, true, false, true, true, true, true, false, false, false, false, false, false, false, false, false, false] rfl rfl (any_of HT_.out (by kernel_rfl)) (fun _ _ _ h => h) (Or.inl ⟨by rfl, ?_⟩) ?_ ?_
              rotate_left
              ·intro w'
               go_simp
               with_reducible rfl
              rotate_left
              ·simp only [Act.put, zA_, zB_, zC_, i64_w, i32_w]
               rfl
              refine pure_ (i := 15) (N := some 25) (v := ?_) (a' := ?_) #[true, true, true, true, false, true, true, true, true, false, true, true, true, true, false, true, false, false, false, false, false, false, false, false] rfl rfl (any_of HT_.out (by kernel_rfl)) (fun _ _ _ h => h) (Or.inl ⟨by rfl, ?_⟩) ?_ ?_
              rotate_left
              ·intro w'
               go_simp
               with_reducible rfl
              rotate_left
              ·simp only [Act.put, zA_, zB_, zC_, i64_w, i32_w]
               rfl
              refine pure_ (i := 16) (N := some 26) (v := ?_) (a' := ?_) #[true, true, true, true, false, true, true, true, true, false, true, true, true, true, false, true, true, false, false, false, false, false, false, false] rfl rfl (any_of HT_.out (by kernel_rfl)) (fun _ _ _ h => h) (Or.inl ⟨by rfl, ?_⟩) ?_ ?_
              rotate_left
              ·intro w'
               go_simp
               with_reducible rfl
              rotate_left
              ·simp only [Act.put, zA_, zB_, zC_, i64_w, i32_w]
               rfl
              refine pure_ (i := 17) (N := some 27) (v := ?_) (a' := ?_) #[true, true, true, true, false, true, true, true, true, false, true, true, true, true, false, true, true, true, false, false, false, false, false, false] rfl rfl (any_of HT_.out (by kernel_rfl)) (fun _ _ _ h => h) (Or.inl ⟨by rfl, ?_⟩) ?_ ?_
              rotate_left
              ·intro w'
               go_simp
               with_reducible rfl
              rotate_left
              ·simp only [Act.put, zA_, zB_, zC_, i64_w, i32_w]
               rfl
              refine pure_ (i := 18) (N := some 28) (v := ?_) (a' := ?_) #[true, true, true, true, false, true, true, true, true, false, true, true, true, true, false, true, true, true, true, false, false, false, false, false] rfl rfl (any_of HT_.out (by kernel_rfl)) (fun _ _ _ h => h) (Or.inl ⟨by rfl, ?_⟩) ?_ ?_
              rotate_left
              ·intro w'
               go_simp
               with_reducible rfl
              rotate_left
              ·simp only [Act.put, zA_, zB_, zC_, i64_w, i32_w]
               rfl
              refine take_ (i := 4) (N := some 14) (v := ?_) (a' := ?_) #[true, true, true, true, true, true, true, true, true, false, true, true, true, true, false, true, true, true, true, false, false, false, false, false] rfl rfl (take_ofW HT_.out HW_.out (by kernel_rfl)) (fun _ _ _ h => h) (Or.inl ⟨by rfl, ?_⟩) hHeld ?_ ?_
              rotate_left
              ·rintro w' ⟨s0, s1, s2, s3⟩
               go_simp
               with_reducible rfl
              rotate_left
              ·simp only [Act.put, zA_, zB_, zC_, i64_w, i32_w]
               rfl
              refine take_ (i := 9) (N := some 19) (v := ?_) (a' := ?_) #[true, true, true, true, true, true, true, true, true, true, true, true, true, true, false, true, true, true, true, false, false, false, false, false] rfl rfl (take_ofW HT_.out HW_.out (by kernel_rfl)) (fun _ _ _ h => h) (Or.inl ⟨by rfl, ?_⟩) hHeld ?_ ?_
              rotate_left
              ·rintro w' ⟨s0, s1, s2, s3⟩
               go_simp
               with_reducible rfl
              rotate_left
              ·simp only [Act.put, zA_, zB_, zC_, i64_w, i32_w]
               rfl
              refine take_ (i := 14) (N := some 24) (v := ?_) (a' := ?_) #[true, true, true, true, true, true, true, true, true, true, true, true, true, true, true, true, true, true, true, false, false, false, false, false] rfl rfl (take_ofW HT_.out HW_.out (by kernel_rfl)) (fun _ _ _ h => h) (Or.inl ⟨by rfl, ?_⟩) hHeld ?_ ?_
              rotate_left
              ·rintro w' ⟨s0, s1, s2, s3⟩
               go_simp
               with_reducible rfl
              rotate_left
              ·simp only [Act.put, zA_, zB_, zC_, i64_w, i32_w]
               rfl
              refine take_ (i := 19) (N := some 29) (v := ?_) (a' := ?_) #[true, true, true, true, true, true, true, true, true, true, true, true, true, true, true, true, true, true, true, true, false, false, false, false] rfl rfl (take_ofW HT_.out HW_.out (by kernel_rfl)) (fun _ _ _ h => h) (Or.inl ⟨by rfl, ?_⟩) hHeld ?_ ?_
              rotate_left
              ·rintro w' ⟨s0, s1, s2, s3⟩
               go_simp
               with_reducible rfl
              rotate_left
              ·simp only [Act.put, zA_, zB_, zC_, i64_w, i32_w]
               rfl
              refine pure_ (i := 20) (N := some 30) (v := ?_) (a' := ?_) #[true, true, true, true, true, true, true, true, true, true, true, true, true, true, true, true, true, true, true, true, true, false, false, false] rfl rfl (any_of HT_.out (by kernel_rfl)) (fun _ _ _ h => h) (Or.inl ⟨by rfl, ?_⟩) ?_ ?_
              rotate_left
              ·intro w'
               go_simp
               with_reducible rfl
              rotate_left
              ·simp only [Act.put, zA_, zB_, zC_, i64_w, i32_w]
               rfl
              refine one_ (i := 21) (N := some 31) #[true, true, true, true, true, true, true, true, true, true, true, true, true, true, true, true, true, true, true, true, true, true, false, false] rfl rfl (one_of HT_.out (by kernel_rfl)) (by decide) (fun K hK => ?_)
              refine goes_ Tryd.func73 (by kernel_rfl) rfl #[.agg (Ar.cells .u8 4 [Ar.get 64 a0 (ji6), Ar.get 64 a0 (ji9), Ar.get 64 a0 (ji12), Ar.get 64 a0 (ji15)])] (by rfl) rfl rfl (by (try simp only [List.map_toArray, List.map_cons, List.map_nil]); first | done | (simp only [hji12, hji15, hji6, hji9]; rfl) | rfl | (simp only [List.length_drop, List.length_take]; rfl)) ?_
              with_reducible refine (drawlotref01_Get32.calls k1 [Ar.get 64 a0 (ji6), Ar.get 64 a0 (ji9), Ar.get 64 a0 (ji12), Ar.get 64 a0 (ji15)] t339 _ A18.out).mono ?_
              rintro e w26 ⟨rfl, hb⟩
              refine ⟨_, rfl, ?_⟩
              replace BK336 := Aside0.mk (qB BK336 hb)
              replace BK337 := Aside0.mk (qB BK337 hb)
              replace BK338 := Aside0.mk (qB BK338 hb)
              replace HB := Aside0.mk (below_step (qs HB) hb)
              (try clear hb)
              (try clear hb2)
              (try clear hk)
              (try clear hi)
              have p27 : (0 ≤ (x4_1 : Int)) = True := eq_true qo
              have q27 : ((x4_1 : Int) < 64) = True := eq_true qo
              refine hK.out _ _ ⟨(Ar.cell_run (j := (ji6)) BK336.out qo qo), (Ar.cell_run (j := (ji9)) BK336.out qo qo), (Ar.cell_run (j := (ji12)) BK336.out qo qo), (Ar.cell_run (j := (ji15)) BK336.out qo qo)⟩ (fun hHeld => ?_)
              clear hK K
              refine norm_ (a' := ?_) ?_ ?_
              rotate_left
              ·show Act.put _ (some 31) _ = _
               simp only [Act.put, zA_, zB_, zC_, i64_w, i32_w]
               rfl
              refine pure_ (i := 22) (N := some 32) (v := ?_) (a' := ?_) #[true, true, true, true, true, true, true, true, true, true, true, true, true, true, true, true, true, true, true, true, true, true, true, false] rfl rfl (any_of HT_.out (by kernel_rfl)) (fun _ _ _ h => h) (Or.inl ⟨by rfl, ?_⟩) ?_ ?_
              rotate_left
              ·intro w'
               go_simp
               with_reducible rfl
              rotate_left
              ·simp only [Act.put, zA_, zB_, zC_, i64_w, i32_w]
               rfl
              refine one_ (i := 23) (N := none) #[true, true, true, true, true, true, true, true, true, true, true, true, true, true, true, true, true, true, true, true, true, true, true, true] rfl rfl (one_of HT_.out (by kernel_rfl)) (by decide) (fun K hK => ?_)
              refine Ar.put_step (by rfl) rfl rfl (by kernel_rfl) (g := gb338) (j := x4_1) rfl (z := t339) qg (qb BK338) qo qo ?_; intro w28 hbk_ hg
              rw [← Ny340.out] at hbk_
              replace BK336 := Aside0.mk (qG BK336 hg (fun e_ => NB336_338.out (Option.some.inj e_)))
              replace BK337 := Aside0.mk (qG BK337 hg (fun e_ => NB337_338.out (Option.some.inj e_)))
              replace BK338 := Aside0.mk (hbk_)
              replace HB := Aside0.mk (Below.grown (qs HB) hg ((below_size (qs HB))) (fun _ e_ => by cases e_; exact GE338.out))
              clear hbk_ hg
              refine hK.out _ _ ⟨(Ar.cell_run (j := (ji6)) BK336.out qo qo), (Ar.cell_run (j := (ji9)) BK336.out qo qo), (Ar.cell_run (j := (ji12)) BK336.out qo qo), (Ar.cell_run (j := (ji15)) BK336.out qo qo)⟩ (fun hHeld => ?_)
              clear hK K
              refine done_ (done_of HT_.out (by kernel_rfl)) ?_
              try go_wp2
              go_roundg k1
              case measure => have := HK1.out; omega
              case rel => exact ⟨(wrap64 (x4_1 + 1)), (y340), (by first | rfl | (simp; done) | (simp [*]; done)), H', ⟨by have := HK1.out; omega⟩, ⟨by (with_reducible repeat (first | refine blk_drewN ?_ _ | refine blk_drew ?_ | refine blk_alloc ?_ _)); exact BK336.out⟩, ⟨by (with_reducible repeat (first | refine blk_drewN ?_ _ | refine blk_drew ?_ | refine blk_alloc ?_ _)); exact BK337.out⟩, ⟨by (with_reducible repeat (first | refine blk_drewN ?_ _ | refine blk_drew ?_ | refine blk_alloc ?_ _)); exact BK338.out⟩, ⟨by repeat (first | (with_reducible first | exact HB.out | apply below_alloc | apply pw_below_drewN | apply below_drew1 | refine below_set ?_ GE336.out | refine below_set ?_ GE337.out | refine below_set ?_ GE338.out) | exact HB.out)⟩⟩
             ·rw [if_neg c20] at H
              exact absurd H (by simp)
            ·rw [if_neg c19] at H
             exact absurd H (by simp)
           ·rw [if_neg c17] at H
            exact absurd H (by simp)
          ·rw [if_neg c16] at H
           exact absurd H (by simp)
         ·rw [if_neg c14] at H
          exact absurd H (by simp)
        ·rw [if_neg c13] at H
         exact absurd H (by simp)
       ·rw [if_neg c11] at H
        exact absurd H (by simp)
      ·rw [if_neg c10] at H
       exact absurd H (by simp)
     ·rw [if_neg c8] at H
      exact absurd H (by simp)
    ·rw [if_neg c7] at H
     exact absurd H (by simp)
   ·rw [if_neg c5] at H
    have c5b0 : decide (x4_1 < 16) = false := decide_eq_false c5
    clear c5
    have H' := Aside0.mk H
    clear H
    go_wp2
    go_loopg [5] k1 (fun kq v5 w' => ∃ (x5_2 : Int) (x339000_2 : List Int), v5 = .int .i64 x5_2 ∧ Aside0 (drawlotref03_Of.l1 kq x5_2 x339000_2 = some r) ∧ Aside0 (kq ≤ k1) ∧ Aside0 (w'.heap[gb336]? = some (.cells (Ar.cells .u8 64 a0) 78 (0, 0))) ∧ Aside0 (w'.heap[gb337]? = some (.cells (Ar.cells .u32 64 (List.replicate 64 0)) 95 (0, 0))) ∧ Aside0 (w'.heap[gb338]? = some (.cells (Ar.cells .u32 64 x339000_2) 95 (0, 0))) ∧ Aside0 (Below w.heap.size w w'))
    case atStart => exact ⟨(16), (x339000_1), (by first | rfl | (simp; done) | (simp [*]; done)), H', ⟨Nat.le_refl _⟩, ⟨by (with_reducible repeat (first | refine blk_drewN ?_ _ | refine blk_drew ?_ | refine blk_alloc ?_ _)); exact BK336.out⟩, ⟨by (with_reducible repeat (first | refine blk_drewN ?_ _ | refine blk_drew ?_ | refine blk_alloc ?_ _)); exact BK337.out⟩, ⟨by (with_reducible repeat (first | refine blk_drewN ?_ _ | refine blk_drew ?_ | refine blk_alloc ?_ _)); exact BK338.out⟩, ⟨by repeat (first | (with_reducible first | exact HB.out | apply below_alloc | apply pw_below_drewN | apply below_drew1 | refine below_set ?_ GE336.out | refine below_set ?_ GE337.out | refine below_set ?_ GE338.out) | exact HB.out)⟩⟩
    case round =>
     clear H'
     try clear c1
     try clear c2
     try clear p2
     try clear q2
     try clear c5
     try clear c5b0
     try clear c6
     try clear p6
     try clear c7
     try clear c7b0
     try clear c8
     try clear c8b0
     try clear c10
     try clear c10b0
     try clear c11
     try clear c11b0
     try clear c13
     try clear c13b0
     try clear c14
     try clear c14b0
     try clear c16
     try clear c16b0
     try clear c17
     try clear c17b0
     try clear c19
     try clear c19b0
     try clear c20
     try clear c20b0
     try clear p22
     try clear q22
     try clear p23
     try clear q23
     try clear p24
     try clear q24
     try clear p25
     try clear q25
     try clear p27
     try clear q27
     try clear p2
     try clear p22
     try clear p23
     try clear p24
     try clear p25
     try clear p27
     try clear q22
     try clear q23
     try clear q24
     try clear q25
     try clear q27
     obtain ⟨x5_2, x339000_2, rfl, HA, HK2, BK336, BK337, BK338, HB⟩ := hrel
     cases gk with
     | zero => exact absurd HA.out (by simp [drawlotref03_Of.l1])
     | succ k2 =>
      have H := HA.out
      clear HA
      simp only [drawlotref03_Of.l1] at H
      by_cases c29 : x5_2 < 64
      ·rw [if_pos c29] at H
       have c29b0 : decide (x5_2 < 64) = true := decide_eq_true c29
       clear c29
       obtain ⟨ji30, hji30⟩ : ∃ j_ : Int, (wrap64 (x5_2 - 2)) = j_ := ⟨_, rfl⟩
       replace H : (if 0 ≤ (ji30) then (if (ji30) < 64 then ((drawlotref03_Second.f k2 (Ar.get 64 x339000_2 (ji30))).bind fun t341 => (if 0 ≤ (wrap64 (x5_2 - 7)) then (if (wrap64 (x5_2 - 7)) < 64 then (if 0 ≤ (wrap64 (x5_2 - 15)) then (if (wrap64 (x5_2 - 15)) < 64 then ((drawlotref03_First.f k2 (Ar.get 64 x339000_2 (wrap64 (x5_2 - 15)))).bind fun t342 => (if 0 ≤ (wrap64 (x5_2 - 16)) then (if (wrap64 (x5_2 - 16)) < 64 then (if 0 ≤ x5_2 then (drawlotref03_Of.l1 k2 (wrap64 (x5_2 + 1)) (Ar.set 64 x339000_2 x5_2 ((((((t341 + (Ar.get 64 x339000_2 (wrap64 (x5_2 - 7)))) % 4294967296) + t342) % 4294967296) + (Ar.get 64 x339000_2 (wrap64 (x5_2 - 16)))) % 4294967296))) else (none)) else (none)) else (none))) else (none)) else (none)) else (none)) else (none))) else (none)) else (none)) = some r := by first | (rw [hji30] at H; exact H) | (simp only [hji30] at H ⊢; exact H)
       have hji30w : (IntKind.i64.wrap (x5_2 - 2)) = ji30 := (i64_w _).trans hji30
       by_cases c31 : 0 ≤ (ji30)
       ·rw [if_pos c31] at H
        have c31b0 : decide (0 ≤ (ji30)) = true := decide_eq_true c31
        clear c31
        by_cases c32 : (ji30) < 64
        ·rw [if_pos c32] at H
         have c32b0 : decide ((ji30) < 64) = true := decide_eq_true c32
         clear c32
         replace H := Option.bind_eq_some_iff.mp H
         obtain ⟨t341, A330, H⟩ := H
         replace H : (if 0 ≤ (wrap64 (x5_2 - 7)) then (if (wrap64 (x5_2 - 7)) < 64 then (if 0 ≤ (wrap64 (x5_2 - 15)) then (if (wrap64 (x5_2 - 15)) < 64 then ((drawlotref03_First.f k2 (Ar.get 64 x339000_2 (wrap64 (x5_2 - 15)))).bind fun t342 => (if 0 ≤ (wrap64 (x5_2 - 16)) then (if (wrap64 (x5_2 - 16)) < 64 then (if 0 ≤ x5_2 then (drawlotref03_Of.l1 k2 (wrap64 (x5_2 + 1)) (Ar.set 64 x339000_2 x5_2 ((((((t341 + (Ar.get 64 x339000_2 (wrap64 (x5_2 - 7)))) % 4294967296) + t342) % 4294967296) + (Ar.get 64 x339000_2 (wrap64 (x5_2 - 16)))) % 4294967296))) else (none)) else (none)) else (none))) else (none)) else (none)) else (none)) else (none)) = some r := H
         have A33 := Aside0.mk A330
         clear A330
         obtain ⟨ji34, hji34⟩ : ∃ j_ : Int, (wrap64 (x5_2 - 7)) = j_ := ⟨_, rfl⟩
         replace H : (if 0 ≤ (ji34) then (if (ji34) < 64 then (if 0 ≤ (wrap64 (x5_2 - 15)) then (if (wrap64 (x5_2 - 15)) < 64 then ((drawlotref03_First.f k2 (Ar.get 64 x339000_2 (wrap64 (x5_2 - 15)))).bind fun t342 => (if 0 ≤ (wrap64 (x5_2 - 16)) then (if (wrap64 (x5_2 - 16)) < 64 then (if 0 ≤ x5_2 then (drawlotref03_Of.l1 k2 (wrap64 (x5_2 + 1)) (Ar.set 64 x339000_2 x5_2 ((((((t341 + (Ar.get 64 x339000_2 (ji34))) % 4294967296) + t342) % 4294967296) + (Ar.get 64 x339000_2 (wrap64 (x5_2 - 16)))) % 4294967296))) else (none)) else (none)) else (none))) else (none)) else (none)) else (none)) else (none)) = some r := by first | (rw [hji34] at H; exact H) | (simp only [hji34] at H ⊢; exact H)
         (try rw [hji34] at A33)
         have hji34w : (IntKind.i64.wrap (x5_2 - 7)) = ji34 := (i64_w _).trans hji34
         by_cases c35 : 0 ≤ (ji34)
         ·rw [if_pos c35] at H
          have c35b0 : decide (0 ≤ (ji34)) = true := decide_eq_true c35
          clear c35
          by_cases c36 : (ji34) < 64
          ·rw [if_pos c36] at H
           have c36b0 : decide ((ji34) < 64) = true := decide_eq_true c36
           clear c36
           obtain ⟨ji37, hji37⟩ : ∃ j_ : Int, (wrap64 (x5_2 - 15)) = j_ := ⟨_, rfl⟩
           replace H : (if 0 ≤ (ji37) then (if (ji37) < 64 then ((drawlotref03_First.f k2 (Ar.get 64 x339000_2 (ji37))).bind fun t342 => (if 0 ≤ (wrap64 (x5_2 - 16)) then (if (wrap64 (x5_2 - 16)) < 64 then (if 0 ≤ x5_2 then (drawlotref03_Of.l1 k2 (wrap64 (x5_2 + 1)) (Ar.set 64 x339000_2 x5_2 ((((((t341 + (Ar.get 64 x339000_2 (ji34))) % 4294967296) + t342) % 4294967296) + (Ar.get 64 x339000_2 (wrap64 (x5_2 - 16)))) % 4294967296))) else (none)) else (none)) else (none))) else (none)) else (none)) = some r := by first | (rw [hji37] at H; exact H) | (simp only [hji37] at H ⊢; exact H)
           (try rw [hji37] at A33)
           have hji37w : (IntKind.i64.wrap (x5_2 - 15)) = ji37 := (i64_w _).trans hji37
           by_cases c38 : 0 ≤ (ji37)
           ·rw [if_pos c38] at H
            have c38b0 : decide (0 ≤ (ji37)) = true := decide_eq_true c38
            clear c38
            by_cases c39 : (ji37) < 64
            ·rw [if_pos c39] at H
             have c39b0 : decide ((ji37) < 64) = true := decide_eq_true c39
             clear c39
             replace H := Option.bind_eq_some_iff.mp H
             obtain ⟨t342, A400, H⟩ := H
             replace H : (if 0 ≤ (wrap64 (x5_2 - 16)) then (if (wrap64 (x5_2 - 16)) < 64 then (if 0 ≤ x5_2 then (drawlotref03_Of.l1 k2 (wrap64 (x5_2 + 1)) (Ar.set 64 x339000_2 x5_2 ((((((t341 + (Ar.get 64 x339000_2 (ji34))) % 4294967296) + t342) % 4294967296) + (Ar.get 64 x339000_2 (wrap64 (x5_2 - 16)))) % 4294967296))) else (none)) else (none)) else (none)) = some r := H
             have A40 := Aside0.mk A400
             clear A400
             obtain ⟨ji41, hji41⟩ : ∃ j_ : Int, (wrap64 (x5_2 - 16)) = j_ := ⟨_, rfl⟩
             replace H : (if 0 ≤ (ji41) then (if (ji41) < 64 then (if 0 ≤ x5_2 then (drawlotref03_Of.l1 k2 (wrap64 (x5_2 + 1)) (Ar.set 64 x339000_2 x5_2 ((((((t341 + (Ar.get 64 x339000_2 (ji34))) % 4294967296) + t342) % 4294967296) + (Ar.get 64 x339000_2 (ji41))) % 4294967296))) else (none)) else (none)) else (none)) = some r := by first | (rw [hji41] at H; exact H) | (simp only [hji41] at H ⊢; exact H)
             (try rw [hji41] at A33)
             (try rw [hji41] at A40)
             have hji41w : (IntKind.i64.wrap (x5_2 - 16)) = ji41 := (i64_w _).trans hji41
             by_cases c42 : 0 ≤ (ji41)
             ·rw [if_pos c42] at H
              have c42b0 : decide (0 ≤ (ji41)) = true := decide_eq_true c42
              clear c42
              by_cases c43 : (ji41) < 64
              ·rw [if_pos c43] at H
               have c43b0 : decide ((ji41) < 64) = true := decide_eq_true c43
               clear c43
               by_cases c44 : 0 ≤ x5_2
               ·rw [if_pos c44] at H
                have c44b0 : decide (0 ≤ x5_2) = true := decide_eq_true c44
                clear c44
                obtain ⟨y343, hy343⟩ : ∃ y_ : List Int, y_ = (Ar.set 64 x339000_2 x5_2 ((((((t341 + (Ar.get 64 x339000_2 (ji34))) % 4294967296) + t342) % 4294967296) + (Ar.get 64 x339000_2 (ji41))) % 4294967296)) := ⟨_, rfl⟩
                replace H : (drawlotref03_Of.l1 k2 (wrap64 (x5_2 + 1)) y343) = some r := by first | (rw [hy343]; with_reducible exact H) | (have H2_ := (Option.bind_some _ _).symm.trans H; rw [hy343]; with_reducible exact H2_) | (have H2_ := (Option.bind_some _ _).symm.trans H; with_reducible exact H2_) | with_reducible exact H | (rw [hy343]; exact H) | exact H
                have Ny343 := Aside0.mk hy343
                clear hy343
                have H' := Aside0.mk H
                clear H
                try go_wp2
                replace BK336 := Aside0.mk (blk_drew BK336.out)
                replace BK337 := Aside0.mk (blk_drew BK337.out)
                replace BK338 := Aside0.mk (blk_drew BK338.out)
                replace HB := Aside0.mk (below_drew1 HB.out)
                have p46 : (0 ≤ ((ji30) : Int)) = True := eq_true qo
                have q46 : (((ji30) : Int) < 64) = True := eq_true qo
                have p47 : (0 ≤ ((ji34) : Int)) = True := eq_true qo
                have q47 : (((ji34) : Int) < 64) = True := eq_true qo
                have p48 : (0 ≤ ((ji37) : Int)) = True := eq_true qo
                have q48 : (((ji37) : Int) < 64) = True := eq_true qo
                have p49 : (0 ≤ ((ji41) : Int)) = True := eq_true qo
                have q49 : (((ji41) : Int) < 64) = True := eq_true qo
                refine start_ (n := 24) (S := fun w' => w'.cell? ⟨gb338, ((ji30) : Int).toNat, none⟩ = some (.int .u32 (Ar.get 64 x339000_2 (ji30))) ∧ w'.cell? ⟨gb338, ((ji34) : Int).toNat, none⟩ = some (.int .u32 (Ar.get 64 x339000_2 (ji34))) ∧ w'.cell? ⟨gb338, ((ji37) : Int).toNat, none⟩ = some (.int .u32 (Ar.get 64 x339000_2 (ji37))) ∧ w'.cell? ⟨gb338, ((ji41) : Int).toNat, none⟩ = some (.int .u32 (Ar.get 64 x339000_2 (ji41)))) (ds := [23]) #[false, false, false, false, false, false, false, false, false, false, false, false, false, false, false, false, false, false, false, false, false, false, false, false] (by kernel_rfl) rfl rfl ⟨(Ar.cell_run (j := (ji30)) BK338.out qo qo), (Ar.cell_run (j := (ji34)) BK338.out qo qo), (Ar.cell_run (j := (ji37)) BK338.out qo qo), (Ar.cell_run (j := (ji41)) BK338.out qo qo)⟩ (fun hHeld => ?_); refine with_tabW drawlotref03_Of.tab9 drawlotref03_Of.bits9 (fun HT_ HW_ => ?_)
                generalize wr.drew = w45 at BK336 BK337 BK338 HB hHeld ⊢
                refine pure_ (i := 0) (N := some 37) (v := ?_) (a' := ?_) #[true, false, false, false, false, false, false, false, false, false, false, false, false, false, false, false, false, false, false, false, false, false, false, false] rfl rfl (any_of HT_.out (by kernel_rfl)) (fun _ _ _ h => h) (Or.inl ⟨by rfl, ?_⟩) ?_ ?_
                rotate_left
                ·intro w'
                 go_simp
                 with_reducible rfl
                rotate_left
                ·simp only [Act.put, zA_, zB_, zC_, i64_w, i32_w]
                 rfl
                refine pure_ (i := 1) (N := some 38) (v := ?_) (a' := ?_) #[true, true, false, false, false, false, false, false, false, false, false, false, false, false, false, false, false, false, false, false, false, false, false, false] rfl rfl (any_of HT_.out (by kernel_rfl)) (fun _ _ _ h => h) (Or.inl ⟨by rfl, ?_⟩) ?_ ?_
                rotate_left
                ·intro w'
                 go_simp
                 with_reducible rfl
                rotate_left
                ·simp only [Act.put, zA_, zB_, zC_, i64_w, i32_w]
                 rfl
                refine pure_ (i := 2) (N := some 39) (v := ?_) (a' := ?_) #[true, true, true, false, false, false, false, false, false, false, false, false, false, false, false, false, false, false, false, false, false, false, false, false] rfl rfl (any_of HT_.out (by kernel_rfl)) (fun _ _ _ h => h) (Or.inl ⟨by rfl, ?_⟩) ?_ ?_
                rotate_left
                ·intro w'
                 go_simp
                 with_reducible rfl
                rotate_left
                ·simp only [Act.put, zA_, zB_, zC_, i64_w, i32_w]
                 rfl
                refine pure_ (i := 3) (N := some 40) (v := ?_) (a' := ?_) #[true, true, true, true, false, false, false, false, false, false, false, false, false, false, false, false, false, false, false, false, false, false, false, false] rfl rfl (any_of HT_.out (by kernel_rfl)) (fun _ _ _ h => h) (Or.inl ⟨by rfl, ?_⟩) ?_ ?_
                rotate_left
                ·intro w'
                 go_simp
                 with_reducible rfl
                rotate_left
                ·simp only [Act.put, zA_, zB_, zC_, i64_w, i32_w]
                 rfl
                refine pure_ (i := 6) (N := some 43) (v := ?_) (a' := ?_) #[true, true, true, true, false, false, true, false, false, false, false, false, false, false, false, false, false, false, false, false, false, false, false, false] rfl rfl (any_of HT_.out (by kernel_rfl)) (fun _ _ _ h => h) (Or.inl ⟨by rfl, ?_⟩) ?_ ?_
                rotate_left
                ·intro w'
                 go_simp
                 with_reducible rfl
                rotate_left
                ·simp only [Act.put, zA_, zB_, zC_, i64_w, i32_w]
                 rfl
                refine pure_ (i := 7) (N := some 44) (v := ?_) (a' := ?_) #[true, true, true, true, false, false, true, true, false, false, false, false, false, false, false, false, false, false, false, false, false, false, false, false] rfl rfl (any_of HT_.out (by kernel_rfl)) (fun _ _ _ h => h) (Or.inl ⟨by rfl, ?_⟩) ?_ ?_
                rotate_left
                ·intro w'
                 go_simp
                 with_reducible rfl
                rotate_left
                ·simp only [Act.put, zA_, zB_, zC_, i64_w, i32_w]
                 rfl
                refine pure_ (i := 8) (N := some 45) (v := ?_) (a' := ?_) #[true, true, true, true, false, false, true, true, true, false, false, false, false, false, false, false, false, false, false, false, false, false, false, false] rfl rfl (any_of HT_.out (by kernel_rfl)) (fun _ _ _ h => h) (Or.inl ⟨by rfl, ?_⟩) ?_ ?_
                rotate_left
                ·intro w'
                 go_simp
                 with_reducible rfl
                rotate_left
                ·simp only [Act.put, zA_, zB_, zC_, i64_w, i32_w]
                 rfl
                refine pure_ (i := 11) (N := some 48) (v := ?_) (a' := ?_) #[true, true, true, true, false, false, true, true, true, false, false, true, false, false, false, false, false, false, false, false, false, false, false, false] rfl rfl (any_of HT_.out (by kernel_rfl)) (fun _ _ _ h => h) (Or.inl ⟨by rfl, ?_⟩) ?_ ?_
                rotate_left
                ·intro w'
                 go_simp
                 with_reducible rfl
                rotate_left
                ·simp only [Act.put, zA_, zB_, zC_, i64_w, i32_w]
                 rfl
                refine pure_ (i := 12) (N := some 49) (v := ?_) (a' := ?_) #[true, true, true, true, false, false, true, true, true, false, false, true, true, false, false, false, false, false, false, false, false, false, false, false] rfl rfl (any_of HT_.out (by kernel_rfl)) (fun _ _ _ h => h) (Or.inl ⟨by rfl, ?_⟩) ?_ ?_
                rotate_left
                ·intro w'
                 go_simp
                 with_reducible rfl
                rotate_left
                ·simp only [Act.put, zA_, zB_, zC_, i64_w, i32_w]
                 rfl
                refine pure_ (i := 13) (N := some 50) (v := ?_) (a' := ?_) #[true, true, true, true, false, false, true, true, true, false, false, true, true, true, false, false, false, false, false, false, false, false, false, false] rfl rfl (any_of HT_.out (by kernel_rfl)) (fun _ _ _ h => h) (Or.inl ⟨by rfl, ?_⟩) ?_ ?_
                rotate_left
                ·intro w'
                 go_simp
                 with_reducible rfl
                rotate_left
                ·simp only [Act.put, zA_, zB_, zC_, i64_w, i32_w]
                 rfl
                refine pure_ (i := 17) (N := some 54) (v := ?_) (a' := ?_) #[true, true, true, true, false, false, true, true, true, false, false, true, true, true, false, false, false, true, false, false, false, false, false, false] rfl rfl (any_of HT_.out (by kernel_rfl)) (fun _ _ _ h => h) (Or.inl ⟨by rfl, ?_⟩) ?_ ?_
                rotate_left
                ·intro w'
                 go_simp
                 with_reducible rfl
                rotate_left
                ·simp only [Act.put, zA_, zB_, zC_, i64_w, i32_w]
                 rfl
                refine pure_ (i := 18) (N := some 55) (v := ?_) (a' := ?_) #[true, true, true, true, false, false, true, true, true, false, false, true, true, true, false, false, false, true, true, false, false, false, false, false] rfl rfl (any_of HT_.out (by kernel_rfl)) (fun _ _ _ h => h) (Or.inl ⟨by rfl, ?_⟩) ?_ ?_
                rotate_left
                ·intro w'
                 go_simp
                 with_reducible rfl
                rotate_left
                ·simp only [Act.put, zA_, zB_, zC_, i64_w, i32_w]
                 rfl
                refine pure_ (i := 19) (N := some 56) (v := ?_) (a' := ?_) #[true, true, true, true, false, false, true, true, true, false, false, true, true, true, false, false, false, true, true, true, false, false, false, false] rfl rfl (any_of HT_.out (by kernel_rfl)) (fun _ _ _ h => h) (Or.inl ⟨by rfl, ?_⟩) ?_ ?_
                rotate_left
                ·intro w'
                 go_simp
                 with_reducible rfl
                rotate_left
                ·simp only [Act.put, zA_, zB_, zC_, i64_w, i32_w]
                 rfl
                refine take_ (i := 4) (N := some 41) (v := ?_) (a' := ?_) #[true, true, true, true, true, false, true, true, true, false, false, true, true, true, false, false, false, true, true, true, false, false, false, false] rfl rfl (take_ofW HT_.out HW_.out (by kernel_rfl)) (fun _ _ _ h => h) (Or.inl ⟨by rfl, ?_⟩) hHeld ?_ ?_
                rotate_left
                ·rintro w' ⟨s0, s1, s2, s3⟩
                 go_simp
                 with_reducible rfl
                rotate_left
                ·simp only [Act.put, zA_, zB_, zC_, i64_w, i32_w]
                 rfl
                refine take_ (i := 9) (N := some 46) (v := ?_) (a' := ?_) #[true, true, true, true, true, false, true, true, true, true, false, true, true, true, false, false, false, true, true, true, false, false, false, false] rfl rfl (take_ofW HT_.out HW_.out (by kernel_rfl)) (fun _ _ _ h => h) (Or.inl ⟨by rfl, ?_⟩) hHeld ?_ ?_
                rotate_left
                ·rintro w' ⟨s0, s1, s2, s3⟩
                 go_simp
                 with_reducible rfl
                rotate_left
                ·simp only [Act.put, zA_, zB_, zC_, i64_w, i32_w]
                 rfl
                refine take_ (i := 14) (N := some 51) (v := ?_) (a' := ?_) #[true, true, true, true, true, false, true, true, true, true, false, true, true, true, true, false, false, true, true, true, false, false, false, false] rfl rfl (take_ofW HT_.out HW_.out (by kernel_rfl)) (fun _ _ _ h => h) (Or.inl ⟨by rfl, ?_⟩) hHeld ?_ ?_
                rotate_left
                ·rintro w' ⟨s0, s1, s2, s3⟩
                 go_simp
                 with_reducible rfl
                rotate_left
                ·simp only [Act.put, zA_, zB_, zC_, i64_w, i32_w]
                 rfl
                refine take_ (i := 20) (N := some 57) (v := ?_) (a' := ?_) #[true, true, true, true, true, false, true, true, true, true, false, true, true, true, true, false, false, true, true, true, true, false, false, false] rfl rfl (take_ofW HT_.out HW_.out (by kernel_rfl)) (fun _ _ _ h => h) (Or.inl ⟨by rfl, ?_⟩) hHeld ?_ ?_
                rotate_left
                ·rintro w' ⟨s0, s1, s2, s3⟩
                 go_simp
                 with_reducible rfl
                rotate_left
                ·simp only [Act.put, zA_, zB_, zC_, i64_w, i32_w]
                 rfl
                refine one_ (i := 5) (N := some 42) #[true, true, true, true, true, true, true, true, true, true, false, true, true, true, true, false, false, true, true, true, true, false, false, false] rfl rfl (one_of HT_.out (by kernel_rfl)) (by decide) (fun K hK => ?_)
                refine goes_ Tryd.func74 (by kernel_rfl) rfl #[.int .u32 (Ar.get 64 x339000_2 (ji30))] (by rfl) rfl rfl (by (try simp only [List.map_toArray, List.map_cons, List.map_nil]); first | done | (simp only [hji30]; rfl) | rfl | (simp only [List.length_drop, List.length_take]; rfl)) ?_
                with_reducible refine (drawlotref03_Second.calls k2 (Ar.get 64 x339000_2 (ji30)) t341 _ A33.out).mono ?_
                rintro e w' ⟨rfl, ⟨nd, rfl⟩⟩
                refine ⟨_, rfl, ?_⟩
                refine hK.out _ _ ⟨(Ar.cell_run (j := (ji30)) BK338.out qo qo), (Ar.cell_run (j := (ji34)) BK338.out qo qo), (Ar.cell_run (j := (ji37)) BK338.out qo qo), (Ar.cell_run (j := (ji41)) BK338.out qo qo)⟩ (fun hHeld => ?_)
                clear hK K
                refine norm_ (a' := ?_) ?_ ?_
                rotate_left
                ·show Act.put _ (some 42) _ = _
                 simp only [Act.put, zA_, zB_, zC_, i64_w, i32_w]
                 rfl
                refine pure_ (i := 10) (N := some 47) (v := ?_) (a' := ?_) #[true, true, true, true, true, true, true, true, true, true, true, true, true, true, true, false, false, true, true, true, true, false, false, false] rfl rfl (any_of HT_.out (by kernel_rfl)) (fun _ _ _ h => h) (Or.inl ⟨by rfl, ?_⟩) ?_ ?_
                rotate_left
                ·intro w'
                 go_simp
                 with_reducible rfl
                rotate_left
                ·simp only [Act.put, zA_, zB_, zC_, i64_w, i32_w]
                 rfl
                refine one_ (i := 15) (N := some 52) #[true, true, true, true, true, true, true, true, true, true, true, true, true, true, true, true, false, true, true, true, true, false, false, false] rfl rfl (one_of HT_.out (by kernel_rfl)) (by decide) (fun K hK => ?_)
                refine goes_ Tryd.func75 (by kernel_rfl) rfl #[.int .u32 (Ar.get 64 x339000_2 (ji37))] (by rfl) rfl rfl (by (try simp only [List.map_toArray, List.map_cons, List.map_nil]); first | done | (simp only [hji37]; rfl) | rfl | (simp only [List.length_drop, List.length_take]; rfl)) ?_
                with_reducible refine (drawlotref03_First.calls k2 (Ar.get 64 x339000_2 (ji37)) t342 _ A40.out).mono ?_
                rintro e w' ⟨rfl, ⟨nd, rfl⟩⟩
                refine ⟨_, rfl, ?_⟩
                have p50 : (0 ≤ (x5_2 : Int)) = True := eq_true qo
                have q50 : ((x5_2 : Int) < 64) = True := eq_true qo
                refine hK.out _ _ ⟨(Ar.cell_run (j := (ji30)) BK338.out qo qo), (Ar.cell_run (j := (ji34)) BK338.out qo qo), (Ar.cell_run (j := (ji37)) BK338.out qo qo), (Ar.cell_run (j := (ji41)) BK338.out qo qo)⟩ (fun hHeld => ?_)
                clear hK K
                refine norm_ (a' := ?_) ?_ ?_
                rotate_left
                ·show Act.put _ (some 52) _ = _
                 simp only [Act.put, zA_, zB_, zC_, i64_w, i32_w]
                 rfl
                refine pure_ (i := 16) (N := some 53) (v := ?_) (a' := ?_) #[true, true, true, true, true, true, true, true, true, true, true, true, true, true, true, true, true, true, true, true, true, false, false, false] rfl rfl (any_of HT_.out (by kernel_rfl)) (fun _ _ _ h => h) (Or.inl ⟨by rfl, ?_⟩) ?_ ?_
                rotate_left
                ·intro w'
                 go_simp
                 with_reducible rfl
                rotate_left
                ·simp only [Act.put, zA_, zB_, zC_, i64_w, i32_w]
                 rfl
                refine pure_ (i := 21) (N := some 58) (v := ?_) (a' := ?_) #[true, true, true, true, true, true, true, true, true, true, true, true, true, true, true, true, true, true, true, true, true, true, false, false] rfl rfl (any_of HT_.out (by kernel_rfl)) (fun _ _ _ h => h) (Or.inl ⟨by rfl, ?_⟩) ?_ ?_
                rotate_left
                ·intro w'
                 go_simp
                 with_reducible rfl
                rotate_left
                ·simp only [Act.put, zA_, zB_, zC_, i64_w, i32_w]
                 rfl
                refine pure_ (i := 22) (N := some 59) (v := ?_) (a' := ?_) #[true, true, true, true, true, true, true, true, true, true, true, true, true, true, true, true, true, true, true, true, true, true, true, false] rfl rfl (any_of HT_.out (by kernel_rfl)) (fun _ _ _ h => h) (Or.inl ⟨by rfl, ?_⟩) ?_ ?_
                rotate_left
                ·intro w'
                 go_simp
                 with_reducible rfl
                rotate_left
                ·simp only [Act.put, zA_, zB_, zC_, i64_w, i32_w]
                 rfl
                refine last_ (i := 23) (N := none) #[true, true, true, true, true, true, true, true, true, true, true, true, true, true, true, true, true, true, true, true, true, true, true, true] rfl rfl (one_of HT_.out (by kernel_rfl)) (by decide) (fun K hK => ?_)
                refine Ar.put_step (by rfl) rfl rfl (by kernel_rfl) (g := gb338) (j := x5_2) rfl (z := ((((((t341 + (Ar.get 64 x339000_2 (ji34))) % 4294967296) + t342) % 4294967296) + (Ar.get 64 x339000_2 (ji41))) % 4294967296)) qg (qb BK338) qo qo ?_; intro w51 hbk_ hg
                rw [← Ny343.out] at hbk_
                replace BK336 := Aside0.mk (qG BK336 hg (fun e_ => NB336_338.out (Option.some.inj e_)))
                replace BK337 := Aside0.mk (qG BK337 hg (fun e_ => NB337_338.out (Option.some.inj e_)))
                replace BK338 := Aside0.mk (hbk_)
                replace HB := Aside0.mk (Below.grown (qs HB) hg ((below_size (qs HB))) (fun _ e_ => by cases e_; exact GE338.out))
                clear hbk_ hg
                refine hK.out _ _ ?_
                clear hK K
                refine done_ (done_of HT_.out (by kernel_rfl)) ?_
                try go_wp2
                go_roundg k2
                case measure => have := HK1.out; have := HK2.out; omega
                case rel => exact ⟨(wrap64 (x5_2 + 1)), (y343), (by first | rfl | (simp; done) | (simp [*]; done)), H', ⟨by have := HK1.out; have := HK2.out; omega⟩, ⟨by (with_reducible repeat (first | refine blk_drewN ?_ _ | refine blk_drew ?_ | refine blk_alloc ?_ _)); exact BK336.out⟩, ⟨by (with_reducible repeat (first | refine blk_drewN ?_ _ | refine blk_drew ?_ | refine blk_alloc ?_ _)); exact BK337.out⟩, ⟨by (with_reducible repeat (first | refine blk_drewN ?_ _ | refine blk_drew ?_ | refine blk_alloc ?_ _)); exact BK338.out⟩, ⟨by repeat (first | (with_reducible first | exact HB.out | apply below_alloc | apply pw_below_drewN | apply below_drew1 | refine below_set ?_ GE336.out | refine below_set ?_ GE337.out | refine below_set ?_ GE338.out) | exact HB.out)⟩⟩
               ·rw [if_neg c44] at H
                exact absurd H (by simp)
              ·rw [if_neg c43] at H
               exact absurd H (by simp)
             ·rw [if_neg c42] at H
              exact absurd H (by simp)
            ·rw [if_neg c39] at H
             exact absurd H (by simp)
           ·rw [if_neg c38] at H
            exact absurd H (by simp)
          ·rw [if_neg c36] at H
           exact absurd H (by simp)
         ·rw [if_neg c35] at H
          exact absurd H (by simp)
        ·rw [if_neg c32] at H
         exact absurd H (by simp)
       ·rw [if_neg c31] at H
        exact absurd H (by simp)
      ·rw [if_neg c29] at H
       have c29b0 : decide (x5_2 < 64) = false := decide_eq_false c29
       clear c29
       obtain rfl := Option.some.inj H
       go_wp2_with (first | ((with_reducible refine gate_dst (N := 60) rfl ?_); (try (refine gate_guard (by rfl) ?_; dsimp only)); refine Ar.load_event rfl (D := 60) rfl (T := 95) rfl Tryd.underlying95 (by kernel_rfl) (g := gb338) rfl (qb BK338) ?_) | ((with_reducible refine gate_store (t := 95) (p := 2) rfl ?_); refine Ar.store_all_event rfl rfl rfl Tryd.underlying95 (by kernel_rfl) (g := gb337) rfl (z := x339000_2) qg (qb BK337) ?_; intro w52 hbk_ hg; replace BK336 := Aside0.mk (qG BK336 hg (fun e_ => NB336_337.out (Option.some.inj e_))); replace BK338 := Aside0.mk (qG BK338 hg (fun e_ => NB338_337.out (Option.some.inj e_))); replace BK337 := Aside0.mk (hbk_); replace HB := Aside0.mk (Below.grown (qs HB) hg ((below_size (qs HB))) (fun _ e_ => by cases e_; exact GE337.out)); clear hbk_ hg))
       refine bodyPost_ret (results_cell_row rfl _ _ gb337 95 (Ar.cells .u32 64 x339000_2) (0, 0) _ rfl (qb BK337) Tryd.underlying95 rfl qZ) rfl ?_
       exact ⟨by first | rfl | (simp [errW_none, errW_some] <;> rfl) | (simp [*, errW_none, errW_some] <;> rfl), by repeat (first | (with_reducible first | exact HB.out | apply below_alloc | apply pw_below_drewN | apply below_drew1 | refine below_set ?_ GE336.out | refine below_set ?_ GE337.out | refine below_set ?_ GE338.out) | exact HB.out)⟩
def drawlotref04_turned.f (k : Nat) (a0 : Int) (a1 : Int) (a2 : Int) (a3 : Int) : Option (Int) := (drawlotref01_Rotate.f k a0 a1).bind fun t344 => ((drawlotref01_Rotate.f k a0 a2).bind fun t345 => ((drawlotref01_Rotate.f k a0 a3).bind fun t346 => (some (Go.bits .xor .u32 (Go.bits .xor .u32 t344 t345) t346))))
theorem drawlotref04_turned.mono : ∀ a0 a1 a2 a3 k, LeO (drawlotref04_turned.f k a0 a1 a2 a3) (drawlotref04_turned.f (k + 1) a0 a1 a2 a3) := by
  intro a0 a1 a2 a3 k
  unfold drawlotref04_turned.f
  repeat' first
      | (with_reducible exact drawlotref01_Rotate.mono _ _ _)
      | (with_reducible exact LeO.refl _)
      | (with_reducible exact LeO.none _)
      | (with_reducible refine LeO.ite ?_ ?_)
      | (with_reducible refine LeO.bind ?_ (fun _ => ?_))
      | exact drawlotref01_Rotate.mono _ _ _
      | exact LeO.none _
      | refine LeO.ite ?_ ?_
      | refine LeO.bind ?_ (fun _ => ?_)
set_option maxHeartbeats 8000000 in
set_option maxRecDepth 100000 in
theorem drawlotref04_turned.calls (k : Nat) (a0 : Int) (a1 : Int) (a2 : Int) (a3 : Int) (r : Int) (w : World) (h : drawlotref04_turned.f k a0 a1 a2 a3 = some r) :
    Calls Tryd.prog 76 #[.int .u32 a0, .int .i64 a1, .int .i64 a2, .int .i64 a3] w fun e w' => e = .returned (.int .u32 r) ∧ Drawn0 w w' := by
  have H : ((drawlotref01_Rotate.f k a0 a1).bind fun t344 => ((drawlotref01_Rotate.f k a0 a2).bind fun t345 => ((drawlotref01_Rotate.f k a0 a3).bind fun t346 => (some (Go.bits .xor .u32 (Go.bits .xor .u32 t344 t345) t346))))) = some r := h
  clear h
  replace H := Option.bind_eq_some_iff.mp H
  obtain ⟨t344, A50, H⟩ := H
  replace H : ((drawlotref01_Rotate.f k a0 a2).bind fun t345 => ((drawlotref01_Rotate.f k a0 a3).bind fun t346 => (some (Go.bits .xor .u32 (Go.bits .xor .u32 t344 t345) t346)))) = some r := H
  have A5 := Aside0.mk A50
  clear A50
  replace H := Option.bind_eq_some_iff.mp H
  obtain ⟨t345, A60, H⟩ := H
  replace H : ((drawlotref01_Rotate.f k a0 a3).bind fun t346 => (some (Go.bits .xor .u32 (Go.bits .xor .u32 t344 t345) t346))) = some r := H
  have A6 := Aside0.mk A60
  clear A60
  replace H := Option.bind_eq_some_iff.mp H
  obtain ⟨t346, A70, H⟩ := H
  replace H : (some (Go.bits .xor .u32 (Go.bits .xor .u32 t344 t345) t346)) = some r := H
  have A7 := Aside0.mk A70
  clear A70
  obtain rfl := Option.some.inj H
  go_enter Tryd.func76, Tryd.ntmps76
  go_wp2_with (first | ((with_reducible refine gate_callee (f := 87) rfl ?_); refine goesL_ (some 11) rfl rfl Tryd.func87 (by kernel_rfl) rfl #[.int .u32 a0, .int .i64 a1] rfl ql ?_; (with_reducible refine (drawlotref01_Rotate.calls k a0 a1 t344 _ A5.out).mono ?_); rintro e w' ⟨rfl, ⟨nd, rfl⟩⟩; refine ⟨_, rfl, ?_⟩) | ((with_reducible refine gate_callee (f := 87) rfl ?_); refine goesL_ (some 14) rfl rfl Tryd.func87 (by kernel_rfl) rfl #[.int .u32 a0, .int .i64 a2] rfl ql ?_; (with_reducible refine (drawlotref01_Rotate.calls k a0 a2 t345 _ A6.out).mono ?_); rintro e w' ⟨rfl, ⟨nd, rfl⟩⟩; refine ⟨_, rfl, ?_⟩) | ((with_reducible refine gate_callee (f := 87) rfl ?_); refine goesL_ (some 18) rfl rfl Tryd.func87 (by kernel_rfl) rfl #[.int .u32 a0, .int .i64 a3] rfl ql ?_; (with_reducible refine (drawlotref01_Rotate.calls k a0 a3 t346 _ A7.out).mono ?_); rintro e w' ⟨rfl, ⟨nd, rfl⟩⟩; refine ⟨_, rfl, ?_⟩))
  go_ret
  exact ⟨by first | rfl | (simp; done) | (simp [*]; done), by repeat (first | exact Drawn0.refl _ | apply Drawn0.step)⟩
end Go.Proofs.YtkcdcbiobkcpmaaDoor.PA
end
section
namespace Go.Proofs.YtkcdcbiobkcpmaaDoor.PA
open Go.RowKit Go.Proofs.YtkcdcbiobkcpmaaDoorW.PrintWords Go.Proofs.YtkcdcbiobkcpmaaDoorW.PrintLast Go.Proofs.YtkcdcbiobkcpmaaDoorW.PrintMore
attribute [local go_sem] max2_int min2_int max_two min_two max_three min_three max_four min_four
set_option linter.unusedVariables false
set_option linter.unusedSimpArgs false
def drawlotref04_choice.f (a0 : Int) (a1 : Int) (a2 : Int) : Option (Int) := some (Go.bits .or .u32 (Go.bits .and .u32 a0 a1) (Go.bits .and .u32 ((4294967295 - a0) % 4294967296) a2))
set_option maxHeartbeats 8000000 in
set_option maxRecDepth 100000 in
theorem drawlotref04_choice.calls (a0 : Int) (a1 : Int) (a2 : Int) (r : Int) (w : World) (h : drawlotref04_choice.f a0 a1 a2 = some r) :
    Calls Tryd.prog 77 #[.int .u32 a0, .int .u32 a1, .int .u32 a2] w fun e w' => e = .returned (.int .u32 r) ∧ Drawn0 w w' := by
  have H : (some (Go.bits .or .u32 (Go.bits .and .u32 a0 a1) (Go.bits .and .u32 ((4294967295 - a0) % 4294967296) a2))) = some r := h
  clear h
  obtain rfl := Option.some.inj H
  go_enter Tryd.func77, Tryd.ntmps77
  go_wp2
  go_ret
  exact ⟨by first | rfl | (simp; done) | (simp [*]; done), by repeat (first | exact Drawn0.refl _ | apply Drawn0.step)⟩
def drawlotref04_majority.f (a0 : Int) (a1 : Int) (a2 : Int) : Option (Int) := some (Go.bits .or .u32 (Go.bits .or .u32 (Go.bits .and .u32 a0 a1) (Go.bits .and .u32 a0 a2)) (Go.bits .and .u32 a1 a2))
set_option maxHeartbeats 8000000 in
set_option maxRecDepth 100000 in
theorem drawlotref04_majority.calls (a0 : Int) (a1 : Int) (a2 : Int) (r : Int) (w : World) (h : drawlotref04_majority.f a0 a1 a2 = some r) :
    Calls Tryd.prog 78 #[.int .u32 a0, .int .u32 a1, .int .u32 a2] w fun e w' => e = .returned (.int .u32 r) ∧ Drawn0 w w' := by
  have H : (some (Go.bits .or .u32 (Go.bits .or .u32 (Go.bits .and .u32 a0 a1) (Go.bits .and .u32 a0 a2)) (Go.bits .and .u32 a1 a2))) = some r := h
  clear h
  obtain rfl := Option.some.inj H
  go_enter Tryd.func78, Tryd.ntmps78
  go_wp2
  go_ret
  exact ⟨by first | rfl | (simp; done) | (simp [*]; done), by repeat (first | exact Drawn0.refl _ | apply Drawn0.step)⟩
def drawlotref04_Round.f (k : Nat) (a0 : List Int) (a1 : Int) (a2 : Int) : Option (List Int) := (drawlotref04_turned.f k (Ar.get 8 a0 4) 6 11 25).bind fun t349 => ((drawlotref04_choice.f (Ar.get 8 a0 4) (Ar.get 8 a0 5) (Ar.get 8 a0 6)).bind fun t350 => ((drawlotref04_turned.f k (Ar.get 8 a0 0) 2 13 22).bind fun t351 => ((drawlotref04_majority.f (Ar.get 8 a0 0) (Ar.get 8 a0 1) (Ar.get 8 a0 2)).bind fun t352 => (some [((((((((((Ar.get 8 a0 7) + t349) % 4294967296) + t350) % 4294967296) + a2) % 4294967296) + a1) % 4294967296) + ((t351 + t352) % 4294967296)) % 4294967296, Ar.get 8 a0 0, Ar.get 8 a0 1, Ar.get 8 a0 2, ((Ar.get 8 a0 3) + (((((((((Ar.get 8 a0 7) + t349) % 4294967296) + t350) % 4294967296) + a2) % 4294967296) + a1) % 4294967296)) % 4294967296, Ar.get 8 a0 4, Ar.get 8 a0 5, Ar.get 8 a0 6]))))
theorem drawlotref04_Round.mono : ∀ a0 a1 a2 k, LeO (drawlotref04_Round.f k a0 a1 a2) (drawlotref04_Round.f (k + 1) a0 a1 a2) := by
 intro a0 a1 a2 k
 unfold drawlotref04_Round.f
 repeat' first
   | (with_reducible exact drawlotref04_turned.mono _ _ _ _ _)
   | (with_reducible exact LeO.refl _)
   | (with_reducible exact LeO.none _)
   | (with_reducible refine LeO.ite ?_ ?_)
   | (with_reducible refine LeO.bind ?_ (fun _ => ?_))
   | exact drawlotref04_turned.mono _ _ _ _ _
   | exact LeO.none _
   | refine LeO.ite ?_ ?_
   | refine LeO.bind ?_ (fun _ => ?_)
set_option maxHeartbeats 8000000 in
set_option maxRecDepth 100000 in
theorem drawlotref04_Round.calls (k : Nat) (a0 : List Int) (a1 : Int) (a2 : Int) (r : List Int) (w : World) (h : drawlotref04_Round.f k a0 a1 a2 = some r) :
  Calls Tryd.prog 62 #[.agg (Ar.cells .u32 8 a0), .int .u32 a1, .int .u32 a2] w fun e w' => e = .returned (.agg (Ar.cells .u32 8 r)) ∧ Below w.heap.size w w' := by
 have HB := Aside0.mk (Below.refl w.heap.size w)
 have H : ((drawlotref04_turned.f k (Ar.get 8 a0 4) 6 11 25).bind fun t349 => ((drawlotref04_choice.f (Ar.get 8 a0 4) (Ar.get 8 a0 5) (Ar.get 8 a0 6)).bind fun t350 => ((drawlotref04_turned.f k (Ar.get 8 a0 0) 2 13 22).bind fun t351 => ((drawlotref04_majority.f (Ar.get 8 a0 0) (Ar.get 8 a0 1) (Ar.get 8 a0 2)).bind fun t352 => (some [((((((((((Ar.get 8 a0 7) + t349) % 4294967296) + t350) % 4294967296) + a2) % 4294967296) + a1) % 4294967296) + ((t351 + t352) % 4294967296)) % 4294967296, Ar.get 8 a0 0, Ar.get 8 a0 1, Ar.get 8 a0 2, ((Ar.get 8 a0 3) + (((((((((Ar.get 8 a0 7) + t349) % 4294967296) + t350) % 4294967296) + a2) % 4294967296) + a1) % 4294967296)) % 4294967296, Ar.get 8 a0 4, Ar.get 8 a0 5, Ar.get 8 a0 6]))))) = some r := h
 clear h
 replace H := Option.bind_eq_some_iff.mp H
 obtain ⟨t349, A40, H⟩ := H
 replace H : ((drawlotref04_choice.f (Ar.get 8 a0 4) (Ar.get 8 a0 5) (Ar.get 8 a0 6)).bind fun t350 => ((drawlotref04_turned.f k (Ar.get 8 a0 0) 2 13 22).bind fun t351 => ((drawlotref04_majority.f (Ar.get 8 a0 0) (Ar.get 8 a0 1) (Ar.get 8 a0 2)).bind fun t352 => (some [((((((((((Ar.get 8 a0 7) + t349) % 4294967296) + t350) % 4294967296) + a2) % 4294967296) + a1) % 4294967296) + ((t351 + t352) % 4294967296)) % 4294967296, Ar.get 8 a0 0, Ar.get 8 a0 1, Ar.get 8 a0 2, ((Ar.get 8 a0 3) + (((((((((Ar.get 8 a0 7) + t349) % 4294967296) + t350) % 4294967296) + a2) % 4294967296) + a1) % 4294967296)) % 4294967296, Ar.get 8 a0 4, Ar.get 8 a0 5, Ar.get 8 a0 6])))) = some r := H
 have A4 := Aside0.mk A40
 clear A40
 replace H := Option.bind_eq_some_iff.mp H
 obtain ⟨t350, A50, H⟩ := H
 replace H : ((drawlotref04_turned.f k (Ar.get 8 a0 0) 2 13 22).bind fun t351 => ((drawlotref04_majority.f (Ar.get 8 a0 0) (Ar.get 8 a0 1) (Ar.get 8 a0 2)).bind fun t352 => (some [((((((((((Ar.get 8 a0 7) + t349) % 4294967296) + t350) % 4294967296) + a2) % 4294967296) + a1) % 4294967296) + ((t351 + t352) % 4294967296)) % 4294967296, Ar.get 8 a0 0, Ar.get 8 a0 1, Ar.get 8 a0 2, ((Ar.get 8 a0 3) + (((((((((Ar.get 8 a0 7) + t349) % 4294967296) + t350) % 4294967296) + a2) % 4294967296) + a1) % 4294967296)) % 4294967296, Ar.get 8 a0 4, Ar.get 8 a0 5, Ar.get 8 a0 6]))) = some r := H
 have A5 := Aside0.mk A50
 clear A50
 replace H := Option.bind_eq_some_iff.mp H
 obtain ⟨t351, A60, H⟩ := H
 replace H : ((drawlotref04_majority.f (Ar.get 8 a0 0) (Ar.get 8 a0 1) (Ar.get 8 a0 2)).bind fun t352 => (some [((((((((((Ar.get 8 a0 7) + t349) % 4294967296) + t350) % 4294967296) + a2) % 4294967296) + a1) % 4294967296) + ((t351 + t352) % 4294967296)) % 4294967296, Ar.get 8 a0 0, Ar.get 8 a0 1, Ar.get 8 a0 2, ((Ar.get 8 a0 3) + (((((((((Ar.get 8 a0 7) + t349) % 4294967296) + t350) % 4294967296) + a2) % 4294967296) + a1) % 4294967296)) % 4294967296, Ar.get 8 a0 4, Ar.get 8 a0 5, Ar.get 8 a0 6])) = some r := H
 have A6 := Aside0.mk A60
 clear A60
 replace H := Option.bind_eq_some_iff.mp H
 obtain ⟨t352, A70, H⟩ := H
 replace H : (some [((((((((((Ar.get 8 a0 7) + t349) % 4294967296) + t350) % 4294967296) + a2) % 4294967296) + a1) % 4294967296) + ((t351 + t352) % 4294967296)) % 4294967296, Ar.get 8 a0 0, Ar.get 8 a0 1, Ar.get 8 a0 2, ((Ar.get 8 a0 3) + (((((((((Ar.get 8 a0 7) + t349) % 4294967296) + t350) % 4294967296) + a2) % 4294967296) + a1) % 4294967296)) % 4294967296, Ar.get 8 a0 4, Ar.get 8 a0 5, Ar.get 8 a0 6]) = some r := H
 have A7 := Aside0.mk A70
 clear A70
 obtain rfl := Option.some.inj H
 go_enter Tryd.func62, Tryd.ntmps62
 go_wp2_with (first | ((with_reducible refine gate_dst (N := 3) rfl ?_); (try (refine gate_guard (by rfl) ?_; dsimp only)); refine qE (N := 3) (cs := (Ar.cells .u32 8 a0)) (t := 33) ?_; intro gb347 hg w8 hbox hb; have BK347 := Aside0.mk (hbox); have GW347 := Aside0.mk ((qe HB hg : w.heap.size ≤ gb347)); have GE347 := Aside0.mk ((qe HB hg : w.heap.size ≤ gb347)); replace HB := Aside0.mk (below_step (qs HB) hb); clear hb hbox hg) | ((with_reducible refine gate_dst (N := 6) rfl ?_); (try (refine gate_guard (by rfl) ?_; dsimp only)); refine qE (N := 6) (cs := (Ar.cells .u32 8 (List.replicate 8 0))) (t := 33) ?_; intro gb348 hg w9 hbox hb; have BK348 := Aside0.mk (hbox); have GW348 := Aside0.mk ((qe HB hg : w.heap.size ≤ gb348)); have GE348 := Aside0.mk ((qe HB hg : w.heap.size ≤ gb348)); replace HB := Aside0.mk (below_step (qs HB) hb); have NB347_348 := Aside0.mk ((qu BK347 hg : gb347 ≠ gb348)); have NB348_347 := Aside0.mk ((qw BK347 hg : gb348 ≠ gb347)); replace BK347 := Aside0.mk (qB BK347 hb); clear hb hbox hg; have hx11_0 : w9.cell? ⟨gb347, 7, none⟩ = some (.int .u32 (Ar.get 8 a0 7)) := Ar.cell_run (j := 7) (qb BK347) (by decide) (by decide); have hx13_0 : w9.cell? ⟨gb347, 4, none⟩ = some (.int .u32 (Ar.get 8 a0 4)) := Ar.cell_run (j := 4) (qb BK347) (by decide) (by decide)) | (go_at_call 76; (with_reducible refine (drawlotref04_turned.calls k (Ar.get 8 a0 4) 6 11 25 t349 _ A4.out).mono ?_); rintro e w' ⟨rfl, ⟨nd, rfl⟩⟩; (try first | exact ⟨rfl, _, World.drewN_drewN _ _ _⟩ | exact ⟨rfl, _, Eq.trans (World.drewN_drewN _ _ _) (congrArg (World.drewN _) (Nat.add_assoc _ _ _))⟩); have hx15_0 : w9.cell? ⟨gb347, 4, none⟩ = some (.int .u32 (Ar.get 8 a0 4)) := Ar.cell_run (j := 4) (qb BK347) (by decide) (by decide); have hx17_0 : w9.cell? ⟨gb347, 5, none⟩ = some (.int .u32 (Ar.get 8 a0 5)) := Ar.cell_run (j := 5) (qb BK347) (by decide) (by decide); have hx19_0 : w9.cell? ⟨gb347, 6, none⟩ = some (.int .u32 (Ar.get 8 a0 6)) := Ar.cell_run (j := 6) (qb BK347) (by decide) (by decide)) | (go_at_call 77; (with_reducible refine (drawlotref04_choice.calls (Ar.get 8 a0 4) (Ar.get 8 a0 5) (Ar.get 8 a0 6) t350 _ A5.out).mono ?_); rintro e w' ⟨rfl, ⟨nd, rfl⟩⟩; (try first | exact ⟨rfl, _, World.drewN_drewN _ _ _⟩ | exact ⟨rfl, _, Eq.trans (World.drewN_drewN _ _ _) (congrArg (World.drewN _) (Nat.add_assoc _ _ _))⟩); have hx21_0 : w9.cell? ⟨gb347, 0, none⟩ = some (.int .u32 (Ar.get 8 a0 0)) := Ar.cell_run (j := 0) (qb BK347) (by decide) (by decide)) | (go_at_call 76; (with_reducible refine (drawlotref04_turned.calls k (Ar.get 8 a0 0) 2 13 22 t351 _ A6.out).mono ?_); rintro e w' ⟨rfl, ⟨nd, rfl⟩⟩; (try first | exact ⟨rfl, _, World.drewN_drewN _ _ _⟩ | exact ⟨rfl, _, Eq.trans (World.drewN_drewN _ _ _) (congrArg (World.drewN _) (Nat.add_assoc _ _ _))⟩); have hx23_0 : w9.cell? ⟨gb347, 0, none⟩ = some (.int .u32 (Ar.get 8 a0 0)) := Ar.cell_run (j := 0) (qb BK347) (by decide) (by decide); have hx25_0 : w9.cell? ⟨gb347, 1, none⟩ = some (.int .u32 (Ar.get 8 a0 1)) := Ar.cell_run (j := 1) (qb BK347) (by decide) (by decide); have hx27_0 : w9.cell? ⟨gb347, 2, none⟩ = some (.int .u32 (Ar.get 8 a0 2)) := Ar.cell_run (j := 2) (qb BK347) (by decide) (by decide)) | (go_at_call 78; (with_reducible refine (drawlotref04_majority.calls (Ar.get 8 a0 0) (Ar.get 8 a0 1) (Ar.get 8 a0 2) t352 _ A7.out).mono ?_); rintro e w' ⟨rfl, ⟨nd, rfl⟩⟩; (try first | exact ⟨rfl, _, World.drewN_drewN _ _ _⟩ | exact ⟨rfl, _, Eq.trans (World.drewN_drewN _ _ _) (congrArg (World.drewN _) (Nat.add_assoc _ _ _))⟩); have hx29_0 : w9.cell? ⟨gb347, 0, none⟩ = some (.int .u32 (Ar.get 8 a0 0)) := Ar.cell_run (j := 0) (qb BK347) (by decide) (by decide); have hx31_0 : w9.cell? ⟨gb347, 1, none⟩ = some (.int .u32 (Ar.get 8 a0 1)) := Ar.cell_run (j := 1) (qb BK347) (by decide) (by decide); have hx33_0 : w9.cell? ⟨gb347, 2, none⟩ = some (.int .u32 (Ar.get 8 a0 2)) := Ar.cell_run (j := 2) (qb BK347) (by decide) (by decide); have hx35_0 : w9.cell? ⟨gb347, 3, none⟩ = some (.int .u32 (Ar.get 8 a0 3)) := Ar.cell_run (j := 3) (qb BK347) (by decide) (by decide); have hx37_0 : w9.cell? ⟨gb347, 4, none⟩ = some (.int .u32 (Ar.get 8 a0 4)) := Ar.cell_run (j := 4) (qb BK347) (by decide) (by decide); have hx39_0 : w9.cell? ⟨gb347, 5, none⟩ = some (.int .u32 (Ar.get 8 a0 5)) := Ar.cell_run (j := 5) (qb BK347) (by decide) (by decide); have hx41_0 : w9.cell? ⟨gb347, 6, none⟩ = some (.int .u32 (Ar.get 8 a0 6)) := Ar.cell_run (j := 6) (qb BK347) (by decide) (by decide)) | ((with_reducible refine gate_dst (N := 57) rfl ?_); (try (refine gate_guard (by rfl) ?_; dsimp only)); refine Ar.build_event rfl (D := 57) rfl (T := 33) rfl (k := .u32) (n := 8) (l := [((((((((((Ar.get 8 a0 7) + t349) % 4294967296) + t350) % 4294967296) + a2) % 4294967296) + a1) % 4294967296) + ((t351 + t352) % 4294967296)) % 4294967296, Ar.get 8 a0 0, Ar.get 8 a0 1, Ar.get 8 a0 2, ((Ar.get 8 a0 3) + (((((((((Ar.get 8 a0 7) + t349) % 4294967296) + t350) % 4294967296) + a2) % 4294967296) + a1) % 4294967296)) % 4294967296, Ar.get 8 a0 4, Ar.get 8 a0 5, Ar.get 8 a0 6]) Tryd.underlying33 (by kernel_rfl) (by kernel_rfl) [(0, ((((((((((Ar.get 8 a0 7) + t349) % 4294967296) + t350) % 4294967296) + a2) % 4294967296) + a1) % 4294967296) + ((t351 + t352) % 4294967296)) % 4294967296), (1, Ar.get 8 a0 0), (2, Ar.get 8 a0 1), (3, Ar.get 8 a0 2), (4, ((Ar.get 8 a0 3) + (((((((((Ar.get 8 a0 7) + t349) % 4294967296) + t350) % 4294967296) + a2) % 4294967296) + a1) % 4294967296)) % 4294967296), (5, Ar.get 8 a0 4), (6, Ar.get 8 a0 5), (7, Ar.get 8 a0 6)] (by rfl) (by rfl) (by rfl) ?_) | ((with_reducible refine gate_store (t := 33) (p := 6) rfl ?_); (try (rw [drewN_self w9]; generalize hq_ : World.drewN w9 _ = w9; replace BK347 := Aside0.mk (blk_at hq_ BK347.out); replace BK348 := Aside0.mk (blk_at hq_ BK348.out); replace HB := Aside0.mk (below_at hq_ HB.out); clear hq_)); refine Ar.store_all_event rfl rfl rfl Tryd.underlying33 (by kernel_rfl) (g := gb348) rfl (z := [((((((((((Ar.get 8 a0 7) + t349) % 4294967296) + t350) % 4294967296) + a2) % 4294967296) + a1) % 4294967296) + ((t351 + t352) % 4294967296)) % 4294967296, Ar.get 8 a0 0, Ar.get 8 a0 1, Ar.get 8 a0 2, ((Ar.get 8 a0 3) + (((((((((Ar.get 8 a0 7) + t349) % 4294967296) + t350) % 4294967296) + a2) % 4294967296) + a1) % 4294967296)) % 4294967296, Ar.get 8 a0 4, Ar.get 8 a0 5, Ar.get 8 a0 6]) qg (qb BK348) ?_; intro w42 hbk_ hg; replace BK347 := Aside0.mk (qG BK347 hg (fun e_ => NB347_348.out (Option.some.inj e_))); replace BK348 := Aside0.mk (hbk_); replace HB := Aside0.mk (Below.grown (qs HB) hg ((below_size (qs HB))) (fun _ e_ => by cases e_; exact GE348.out)); clear hbk_ hg))
 repeat (go_quiet (first | ((with_reducible refine gate_dst (N := 3) rfl ?_); (try (refine gate_guard (by rfl) ?_; dsimp only)); refine qE (N := 3) (cs := (Ar.cells .u32 8 a0)) (t := 33) ?_; intro gb347 hg w8 hbox hb; have BK347 := Aside0.mk (hbox); have GW347 := Aside0.mk ((qe HB hg : w.heap.size ≤ gb347)); have GE347 := Aside0.mk ((qe HB hg : w.heap.size ≤ gb347)); replace HB := Aside0.mk (below_step (qs HB) hb); clear hb hbox hg) | ((with_reducible refine gate_dst (N := 6) rfl ?_); (try (refine gate_guard (by rfl) ?_; dsimp only)); refine qE (N := 6) (cs := (Ar.cells .u32 8 (List.replicate 8 0))) (t := 33) ?_; intro gb348 hg w9 hbox hb; have BK348 := Aside0.mk (hbox); have GW348 := Aside0.mk ((qe HB hg : w.heap.size ≤ gb348)); have GE348 := Aside0.mk ((qe HB hg : w.heap.size ≤ gb348)); replace HB := Aside0.mk (below_step (qs HB) hb); have NB347_348 := Aside0.mk ((qu BK347 hg : gb347 ≠ gb348)); have NB348_347 := Aside0.mk ((qw BK347 hg : gb348 ≠ gb347)); replace BK347 := Aside0.mk (qB BK347 hb); clear hb hbox hg; have hx11_0 : w9.cell? ⟨gb347, 7, none⟩ = some (.int .u32 (Ar.get 8 a0 7)) := Ar.cell_run (j := 7) (qb BK347) (by decide) (by decide); have hx13_0 : w9.cell? ⟨gb347, 4, none⟩ = some (.int .u32 (Ar.get 8 a0 4)) := Ar.cell_run (j := 4) (qb BK347) (by decide) (by decide)) | (go_at_call 76; (with_reducible refine (drawlotref04_turned.calls k (Ar.get 8 a0 4) 6 11 25 t349 _ A4.out).mono ?_); rintro e w' ⟨rfl, ⟨nd, rfl⟩⟩; (try first | exact ⟨rfl, _, World.drewN_drewN _ _ _⟩ | exact ⟨rfl, _, Eq.trans (World.drewN_drewN _ _ _) (congrArg (World.drewN _) (Nat.add_assoc _ _ _))⟩); have hx15_0 : w9.cell? ⟨gb347, 4, none⟩ = some (.int .u32 (Ar.get 8 a0 4)) := Ar.cell_run (j := 4) (qb BK347) (by decide) (by decide); have hx17_0 : w9.cell? ⟨gb347, 5, none⟩ = some (.int .u32 (Ar.get 8 a0 5)) := Ar.cell_run (j := 5) (qb BK347) (by decide) (by decide); have hx19_0 : w9.cell? ⟨gb347, 6, none⟩ = some (.int .u32 (Ar.get 8 a0 6)) := Ar.cell_run (j := 6) (qb BK347) (by decide) (by decide)) | (go_at_call 77; (with_reducible refine (drawlotref04_choice.calls (Ar.get 8 a0 4) (Ar.get 8 a0 5) (Ar.get 8 a0 6) t350 _ A5.out).mono ?_); rintro e w' ⟨rfl, ⟨nd, rfl⟩⟩; (try first | exact ⟨rfl, _, World.drewN_drewN _ _ _⟩ | exact ⟨rfl, _, Eq.trans (World.drewN_drewN _ _ _) (congrArg (World.drewN _) (Nat.add_assoc _ _ _))⟩); have hx21_0 : w9.cell? ⟨gb347, 0, none⟩ = some (.int .u32 (Ar.get 8 a0 0)) := Ar.cell_run (j := 0) (qb BK347) (by decide) (by decide)) | (go_at_call 76; (with_reducible refine (drawlotref04_turned.calls k (Ar.get 8 a0 0) 2 13 22 t351 _ A6.out).mono ?_); rintro e w' ⟨rfl, ⟨nd, rfl⟩⟩; (try first | exact ⟨rfl, _, World.drewN_drewN _ _ _⟩ | exact ⟨rfl, _, Eq.trans (World.drewN_drewN _ _ _) (congrArg (World.drewN _) (Nat.add_assoc _ _ _))⟩); have hx23_0 : w9.cell? ⟨gb347, 0, none⟩ = some (.int .u32 (Ar.get 8 a0 0)) := Ar.cell_run (j := 0) (qb BK347) (by decide) (by decide); have hx25_0 : w9.cell? ⟨gb347, 1, none⟩ = some (.int .u32 (Ar.get 8 a0 1)) := Ar.cell_run (j := 1) (qb BK347) (by decide) (by decide); have hx27_0 : w9.cell? ⟨gb347, 2, none⟩ = some (.int .u32 (Ar.get 8 a0 2)) := Ar.cell_run (j := 2) (qb BK347) (by decide) (by decide)) | (go_at_call 78; (with_reducible refine (drawlotref04_majority.calls (Ar.get 8 a0 0) (Ar.get 8 a0 1) (Ar.get 8 a0 2) t352 _ A7.out).mono ?_); rintro e w' ⟨rfl, ⟨nd, rfl⟩⟩; (try first | exact ⟨rfl, _, World.drewN_drewN _ _ _⟩ | exact ⟨rfl, _, Eq.trans (World.drewN_drewN _ _ _) (congrArg (World.drewN _) (Nat.add_assoc _ _ _))⟩); have hx29_0 : w9.cell? ⟨gb347, 0, none⟩ = some (.int .u32 (Ar.get 8 a0 0)) := Ar.cell_run (j := 0) (qb BK347) (by decide) (by decide); have hx31_0 : w9.cell? ⟨gb347, 1, none⟩ = some (.int .u32 (Ar.get 8 a0 1)) := Ar.cell_run (j := 1) (qb BK347) (by decide) (by decide); have hx33_0 : w9.cell? ⟨gb347, 2, none⟩ = some (.int .u32 (Ar.get 8 a0 2)) := Ar.cell_run (j := 2) (qb BK347) (by decide) (by decide); have hx35_0 : w9.cell? ⟨gb347, 3, none⟩ = some (.int .u32 (Ar.get 8 a0 3)) := Ar.cell_run (j := 3) (qb BK347) (by decide) (by decide); have hx37_0 : w9.cell? ⟨gb347, 4, none⟩ = some (.int .u32 (Ar.get 8 a0 4)) := Ar.cell_run (j := 4) (qb BK347) (by decide) (by decide); have hx39_0 : w9.cell? ⟨gb347, 5, none⟩ = some (.int .u32 (Ar.get 8 a0 5)) := Ar.cell_run (j := 5) (qb BK347) (by decide) (by decide); have hx41_0 : w9.cell? ⟨gb347, 6, none⟩ = some (.int .u32 (Ar.get 8 a0 6)) := Ar.cell_run (j := 6) (qb BK347) (by decide) (by decide)) | ((with_reducible refine gate_dst (N := 57) rfl ?_); (try (refine gate_guard (by rfl) ?_; dsimp only)); refine Ar.build_event rfl (D := 57) rfl (T := 33) rfl (k := .u32) (n := 8) (l := [((((((((((Ar.get 8 a0 7) + t349) % 4294967296) + t350) % 4294967296) + a2) % 4294967296) + a1) % 4294967296) + ((t351 + t352) % 4294967296)) % 4294967296, Ar.get 8 a0 0, Ar.get 8 a0 1, Ar.get 8 a0 2, ((Ar.get 8 a0 3) + (((((((((Ar.get 8 a0 7) + t349) % 4294967296) + t350) % 4294967296) + a2) % 4294967296) + a1) % 4294967296)) % 4294967296, Ar.get 8 a0 4, Ar.get 8 a0 5, Ar.get 8 a0 6]) Tryd.underlying33 (by kernel_rfl) (by kernel_rfl) [(0, ((((((((((Ar.get 8 a0 7) + t349) % 4294967296) + t350) % 4294967296) + a2) % 4294967296) + a1) % 4294967296) + ((t351 + t352) % 4294967296)) % 4294967296), (1, Ar.get 8 a0 0), (2, Ar.get 8 a0 1), (3, Ar.get 8 a0 2), (4, ((Ar.get 8 a0 3) + (((((((((Ar.get 8 a0 7) + t349) % 4294967296) + t350) % 4294967296) + a2) % 4294967296) + a1) % 4294967296)) % 4294967296), (5, Ar.get 8 a0 4), (6, Ar.get 8 a0 5), (7, Ar.get 8 a0 6)] (by rfl) (by rfl) (by rfl) ?_) | ((with_reducible refine gate_store (t := 33) (p := 6) rfl ?_); (try (rw [drewN_self w9]; generalize hq_ : World.drewN w9 _ = w9; replace BK347 := Aside0.mk (blk_at hq_ BK347.out); replace BK348 := Aside0.mk (blk_at hq_ BK348.out); replace HB := Aside0.mk (below_at hq_ HB.out); clear hq_)); refine Ar.store_all_event rfl rfl rfl Tryd.underlying33 (by kernel_rfl) (g := gb348) rfl (z := [((((((((((Ar.get 8 a0 7) + t349) % 4294967296) + t350) % 4294967296) + a2) % 4294967296) + a1) % 4294967296) + ((t351 + t352) % 4294967296)) % 4294967296, Ar.get 8 a0 0, Ar.get 8 a0 1, Ar.get 8 a0 2, ((Ar.get 8 a0 3) + (((((((((Ar.get 8 a0 7) + t349) % 4294967296) + t350) % 4294967296) + a2) % 4294967296) + a1) % 4294967296)) % 4294967296, Ar.get 8 a0 4, Ar.get 8 a0 5, Ar.get 8 a0 6]) qg (qb BK348) ?_; intro w42 hbk_ hg; replace BK347 := Aside0.mk (qG BK347 hg (fun e_ => NB347_348.out (Option.some.inj e_))); replace BK348 := Aside0.mk (hbk_); replace HB := Aside0.mk (Below.grown (qs HB) hg ((below_size (qs HB))) (fun _ e_ => by cases e_; exact GE348.out)); clear hbk_ hg)); try go_wp2_with (first | ((with_reducible refine gate_dst (N := 3) rfl ?_); (try (refine gate_guard (by rfl) ?_; dsimp only)); refine qE (N := 3) (cs := (Ar.cells .u32 8 a0)) (t := 33) ?_; intro gb347 hg w8 hbox hb; have BK347 := Aside0.mk (hbox); have GW347 := Aside0.mk ((qe HB hg : w.heap.size ≤ gb347)); have GE347 := Aside0.mk ((qe HB hg : w.heap.size ≤ gb347)); replace HB := Aside0.mk (below_step (qs HB) hb); clear hb hbox hg) | ((with_reducible refine gate_dst (N := 6) rfl ?_); (try (refine gate_guard (by rfl) ?_; dsimp only)); refine qE (N := 6) (cs := (Ar.cells .u32 8 (List.replicate 8 0))) (t := 33) ?_; intro gb348 hg w9 hbox hb; have BK348 := Aside0.mk (hbox); have GW348 := Aside0.mk ((qe HB hg : w.heap.size ≤ gb348)); have GE348 := Aside0.mk ((qe HB hg : w.heap.size ≤ gb348)); replace HB := Aside0.mk (below_step (qs HB) hb); have NB347_348 := Aside0.mk ((qu BK347 hg : gb347 ≠ gb348)); have NB348_347 := Aside0.mk ((qw BK347 hg : gb348 ≠ gb347)); replace BK347 := Aside0.mk (qB BK347 hb); clear hb hbox hg; have hx11_0 : w9.cell? ⟨gb347, 7, none⟩ = some (.int .u32 (Ar.get 8 a0 7)) := Ar.cell_run (j := 7) (qb BK347) (by decide) (by decide); have hx13_0 : w9.cell? ⟨gb347, 4, none⟩ = some (.int .u32 (Ar.get 8 a0 4)) := Ar.cell_run (j := 4) (qb BK347) (by decide) (by decide)) | (go_at_call 76; (with_reducible refine (drawlotref04_turned.calls k (Ar.get 8 a0 4) 6 11 25 t349 _ A4.out).mono ?_); rintro e w' ⟨rfl, ⟨nd, rfl⟩⟩; (try first | exact ⟨rfl, _, World.drewN_drewN _ _ _⟩ | exact ⟨rfl, _, Eq.trans (World.drewN_drewN _ _ _) (congrArg (World.drewN _) (Nat.add_assoc _ _ _))⟩); have hx15_0 : w9.cell? ⟨gb347, 4, none⟩ = some (.int .u32 (Ar.get 8 a0 4)) := Ar.cell_run (j := 4) (qb BK347) (by decide) (by decide); have hx17_0 : w9.cell? ⟨gb347, 5, none⟩ = some (.int .u32 (Ar.get 8 a0 5)) := Ar.cell_run (j := 5) (qb BK347) (by decide) (by decide); have hx19_0 : w9.cell? ⟨gb347, 6, none⟩ = some (.int .u32 (Ar.get 8 a0 6)) := Ar.cell_run (j := 6) (qb BK347) (by decide) (by decide)) | (go_at_call 77; (with_reducible refine (drawlotref04_choice.calls (Ar.get 8 a0 4) (Ar.get 8 a0 5) (Ar.get 8 a0 6) t350 _ A5.out).mono ?_); rintro e w' ⟨rfl, ⟨nd, rfl⟩⟩; (try first | exact ⟨rfl, _, World.drewN_drewN _ _ _⟩ | exact ⟨rfl, _, Eq.trans (World.drewN_drewN _ _ _) (congrArg (World.drewN _) (Nat.add_assoc _ _ _))⟩); have hx21_0 : w9.cell? ⟨gb347, 0, none⟩ = some (.int .u32 (Ar.get 8 a0 0)) := Ar.cell_run (j := 0) (qb BK347) (by decide) (by decide)) | (go_at_call 76; (with_reducible refine (drawlotref04_turned.calls k (Ar.get 8 a0 0) 2 13 22 t351 _ A6.out).mono ?_); rintro e w' ⟨rfl, ⟨nd, rfl⟩⟩; (try first | exact ⟨rfl, _, World.drewN_drewN _ _ _⟩ | exact ⟨rfl, _, Eq.trans (World.drewN_drewN _ _ _) (congrArg (World.drewN _) (Nat.add_assoc _ _ _))⟩); have hx23_0 : w9.cell? ⟨gb347, 0, none⟩ = some (.int .u32 (Ar.get 8 a0 0)) := Ar.cell_run (j := 0) (qb BK347) (by decide) (by decide); have hx25_0 : w9.cell? ⟨gb347, 1, none⟩ = some (.int .u32 (Ar.get 8 a0 1)) := Ar.cell_run (j := 1) (qb BK347) (by decide) (by decide); have hx27_0 : w9.cell? ⟨gb347, 2, none⟩ = some (.int .u32 (Ar.get 8 a0 2)) := Ar.cell_run (j := 2) (qb BK347) (by decide) (by decide)) | (go_at_call 78; (with_reducible refine (drawlotref04_majority.calls (Ar.get 8 a0 0) (Ar.get 8 a0 1) (Ar.get 8 a0 2) t352 _ A7.out).mono ?_); rintro e w' ⟨rfl, ⟨nd, rfl⟩⟩; (try first | exact ⟨rfl, _, World.drewN_drewN _ _ _⟩ | exact ⟨rfl, _, Eq.trans (World.drewN_drewN _ _ _) (congrArg (World.drewN _) (Nat.add_assoc _ _ _))⟩); have hx29_0 : w9.cell? ⟨gb347, 0, none⟩ = some (.int .u32 (Ar.get 8 a0 0)) := Ar.cell_run (j := 0) (qb BK347) (by decide) (by decide); have hx31_0 : w9.cell? ⟨gb347, 1, none⟩ = some (.int .u32 (Ar.get 8 a0 1)) := Ar.cell_run (j := 1) (qb BK347) (by decide) (by decide); have hx33_0 : w9.cell? ⟨gb347, 2, none⟩ = some (.int .u32 (Ar.get 8 a0 2)) := Ar.cell_run (j := 2) (qb BK347) (by decide) (by decide); have hx35_0 : w9.cell? ⟨gb347, 3, none⟩ = some (.int .u32 (Ar.get 8 a0 3)) := Ar.cell_run (j := 3) (qb BK347) (by decide) (by decide); have hx37_0 : w9.cell? ⟨gb347, 4, none⟩ = some (.int .u32 (Ar.get 8 a0 4)) := Ar.cell_run (j := 4) (qb BK347) (by decide) (by decide); have hx39_0 : w9.cell? ⟨gb347, 5, none⟩ = some (.int .u32 (Ar.get 8 a0 5)) := Ar.cell_run (j := 5) (qb BK347) (by decide) (by decide); have hx41_0 : w9.cell? ⟨gb347, 6, none⟩ = some (.int .u32 (Ar.get 8 a0 6)) := Ar.cell_run (j := 6) (qb BK347) (by decide) (by decide)) | ((with_reducible refine gate_dst (N := 57) rfl ?_); (try (refine gate_guard (by rfl) ?_; dsimp only)); refine Ar.build_event rfl (D := 57) rfl (T := 33) rfl (k := .u32) (n := 8) (l := [((((((((((Ar.get 8 a0 7) + t349) % 4294967296) + t350) % 4294967296) + a2) % 4294967296) + a1) % 4294967296) + ((t351 + t352) % 4294967296)) % 4294967296, Ar.get 8 a0 0, Ar.get 8 a0 1, Ar.get 8 a0 2, ((Ar.get 8 a0 3) + (((((((((Ar.get 8 a0 7) + t349) % 4294967296) + t350) % 4294967296) + a2) % 4294967296) + a1) % 4294967296)) % 4294967296, Ar.get 8 a0 4, Ar.get 8 a0 5, Ar.get 8 a0 6]) Tryd.underlying33 (by kernel_rfl) (by kernel_rfl) [(0, ((((((((((Ar.get 8 a0 7) + t349) % 4294967296) + t350) % 4294967296) + a2) % 4294967296) + a1) % 4294967296) + ((t351 + t352) % 4294967296)) % 4294967296), (1, Ar.get 8 a0 0), (2, Ar.get 8 a0 1), (3, Ar.get 8 a0 2), (4, ((Ar.get 8 a0 3) + (((((((((Ar.get 8 a0 7) + t349) % 4294967296) + t350) % 4294967296) + a2) % 4294967296) + a1) % 4294967296)) % 4294967296), (5, Ar.get 8 a0 4), (6, Ar.get 8 a0 5), (7, Ar.get 8 a0 6)] (by rfl) (by rfl) (by rfl) ?_) | ((with_reducible refine gate_store (t := 33) (p := 6) rfl ?_); (try (rw [drewN_self w9]; generalize hq_ : World.drewN w9 _ = w9; replace BK347 := Aside0.mk (blk_at hq_ BK347.out); replace BK348 := Aside0.mk (blk_at hq_ BK348.out); replace HB := Aside0.mk (below_at hq_ HB.out); clear hq_)); refine Ar.store_all_event rfl rfl rfl Tryd.underlying33 (by kernel_rfl) (g := gb348) rfl (z := [((((((((((Ar.get 8 a0 7) + t349) % 4294967296) + t350) % 4294967296) + a2) % 4294967296) + a1) % 4294967296) + ((t351 + t352) % 4294967296)) % 4294967296, Ar.get 8 a0 0, Ar.get 8 a0 1, Ar.get 8 a0 2, ((Ar.get 8 a0 3) + (((((((((Ar.get 8 a0 7) + t349) % 4294967296) + t350) % 4294967296) + a2) % 4294967296) + a1) % 4294967296)) % 4294967296, Ar.get 8 a0 4, Ar.get 8 a0 5, Ar.get 8 a0 6]) qg (qb BK348) ?_; intro w42 hbk_ hg; replace BK347 := Aside0.mk (qG BK347 hg (fun e_ => NB347_348.out (Option.some.inj e_))); replace BK348 := Aside0.mk (hbk_); replace HB := Aside0.mk (Below.grown (qs HB) hg ((below_size (qs HB))) (fun _ e_ => by cases e_; exact GE348.out)); clear hbk_ hg)))
 refine bodyPost_ret (results_cell_row rfl _ _ gb348 33 (Ar.cells .u32 8 [((((((((((Ar.get 8 a0 7) + t349) % 4294967296) + t350) % 4294967296) + a2) % 4294967296) + a1) % 4294967296) + ((t351 + t352) % 4294967296)) % 4294967296, Ar.get 8 a0 0, Ar.get 8 a0 1, Ar.get 8 a0 2, ((Ar.get 8 a0 3) + (((((((((Ar.get 8 a0 7) + t349) % 4294967296) + t350) % 4294967296) + a2) % 4294967296) + a1) % 4294967296)) % 4294967296, Ar.get 8 a0 4, Ar.get 8 a0 5, Ar.get 8 a0 6]) (0, 0) _ rfl (qb BK348) Tryd.underlying33 rfl qZ) rfl ?_
 exact ⟨by first | rfl | (simp [errW_none, errW_some] <;> rfl) | (simp [*, errW_none, errW_some] <;> rfl), by repeat (first | (with_reducible first | exact HB.out | apply below_alloc | apply pw_below_drewN | apply below_drew1 | refine below_set ?_ GE347.out | refine below_set ?_ GE348.out) | exact HB.out)⟩
def drawlotref04_Constant.f (a0 : Int) : Option (Int) := if a0 < 0 then (some 0) else (if a0 > 63 then (some 0) else (if 0 ≤ a0 then (if a0 < 64 then (some (Ar.get 64 [1116352408, 1899447441, 3049323471, 3921009573, 961987163, 1508970993, 2453635748, 2870763221, 3624381080, 310598401, 607225278, 1426881987, 1925078388, 2162078206, 2614888103, 3248222580, 3835390401, 4022224774, 264347078, 604807628, 770255983, 1249150122, 1555081692, 1996064986, 2554220882, 2821834349, 2952996808, 3210313671, 3336571891, 3584528711, 113926993, 338241895, 666307205, 773529912, 1294757372, 1396182291, 1695183700, 1986661051, 2177026350, 2456956037, 2730485921, 2820302411, 3259730800, 3345764771, 3516065817, 3600352804, 4094571909, 275423344, 430227734, 506948616, 659060556, 883997877, 958139571, 1322822218, 1537002063, 1747873779, 1955562222, 2024104815, 2227730452, 2361852424, 2428436474, 2756734187, 3204031479, 3329325298] a0)) else (none)) else (none)))
set_option maxHeartbeats 8000000 in
set_option maxRecDepth 100000 in
theorem drawlotref04_Constant.calls (a0 : Int) (r : Int) (w : World) (h : drawlotref04_Constant.f a0 = some r) :
  Calls Tryd.prog 63 #[.int .i64 a0] w fun e w' => e = .returned (.int .u32 r) ∧ Drawn0 w w' := by
 have H : (if a0 < 0 then (some 0) else (if a0 > 63 then (some 0) else (if 0 ≤ a0 then (if a0 < 64 then (some (Ar.get 64 [1116352408, 1899447441, 3049323471, 3921009573, 961987163, 1508970993, 2453635748, 2870763221, 3624381080, 310598401, 607225278, 1426881987, 1925078388, 2162078206, 2614888103, 3248222580, 3835390401, 4022224774, 264347078, 604807628, 770255983, 1249150122, 1555081692, 1996064986, 2554220882, 2821834349, 2952996808, 3210313671, 3336571891, 3584528711, 113926993, 338241895, 666307205, 773529912, 1294757372, 1396182291, 1695183700, 1986661051, 2177026350, 2456956037, 2730485921, 2820302411, 3259730800, 3345764771, 3516065817, 3600352804, 4094571909, 275423344, 430227734, 506948616, 659060556, 883997877, 958139571, 1322822218, 1537002063, 1747873779, 1955562222, 2024104815, 2227730452, 2361852424, 2428436474, 2756734187, 3204031479, 3329325298] a0)) else (none)) else (none)))) = some r := h
 clear h
 by_cases c2 : a0 < 0
 ·rw [if_pos c2] at H
  have c2b0 : decide (a0 < 0) = true := decide_eq_true c2
  clear c2
  obtain rfl := Option.some.inj H
  go_enter Tryd.func63, Tryd.ntmps63
  go_wp2
  go_ret
  exact ⟨by first | rfl | (simp; done) | (simp [*]; done), by repeat (first | exact Drawn0.refl _ | apply Drawn0.step)⟩
 ·rw [if_neg c2] at H
  have c2b0 : decide (a0 < 0) = false := decide_eq_false c2
  clear c2
  by_cases c3 : a0 > 63
  ·rw [if_pos c3] at H
   have c3b0 : decide (63 < a0) = true := decide_eq_true c3
   clear c3
   obtain rfl := Option.some.inj H
   go_enter Tryd.func63, Tryd.ntmps63
   go_wp2
   go_ret
   exact ⟨by first | rfl | (simp; done) | (simp [*]; done), by repeat (first | exact Drawn0.refl _ | apply Drawn0.step)⟩
  ·rw [if_neg c3] at H
   have c3b0 : decide (63 < a0) = false := decide_eq_false c3
   clear c3
   by_cases c4 : 0 ≤ a0
   ·rw [if_pos c4] at H
    have c4b0 : decide (0 ≤ a0) = true := decide_eq_true c4
    clear c4
    by_cases c5 : a0 < 64
    ·rw [if_pos c5] at H
     have c5b0 : decide (a0 < 64) = true := decide_eq_true c5
     clear c5
     obtain rfl := Option.some.inj H
     go_enter Tryd.func63, Tryd.ntmps63
     go_wp2_with (first | ((with_reducible refine gate_dst (N := 9) rfl ?_); (try (refine gate_guard (by rfl) ?_; dsimp only)); refine Ar.build_event rfl (D := 9) rfl (T := 94) rfl (k := .u32) (n := 64) (l := [1116352408, 1899447441, 3049323471, 3921009573, 961987163, 1508970993, 2453635748, 2870763221, 3624381080, 310598401, 607225278, 1426881987, 1925078388, 2162078206, 2614888103, 3248222580, 3835390401, 4022224774, 264347078, 604807628, 770255983, 1249150122, 1555081692, 1996064986, 2554220882, 2821834349, 2952996808, 3210313671, 3336571891, 3584528711, 113926993, 338241895, 666307205, 773529912, 1294757372, 1396182291, 1695183700, 1986661051, 2177026350, 2456956037, 2730485921, 2820302411, 3259730800, 3345764771, 3516065817, 3600352804, 4094571909, 275423344, 430227734, 506948616, 659060556, 883997877, 958139571, 1322822218, 1537002063, 1747873779, 1955562222, 2024104815, 2227730452, 2361852424, 2428436474, 2756734187, 3204031479, 3329325298]) Tryd.underlying94 (by kernel_rfl) (by kernel_rfl) [(0, 1116352408), (1, 1899447441), (2, 3049323471), (3, 3921009573), (4, 961987163), (5, 1508970993), (6, 2453635748), (7, 2870763221), (8, 3624381080), (9, 310598401), (10, 607225278), (11, 1426881987), (12, 1925078388), (13, 2162078206), (14, 2614888103), (15, 3248222580), (16, 3835390401), (17, 4022224774), (18, 264347078), (19, 604807628), (20, 770255983), (21, 1249150122), (22, 1555081692), (23, 1996064986), (24, 2554220882), (25, 2821834349), (26, 2952996808), (27, 3210313671), (28, 3336571891), (29, 3584528711), (30, 113926993), (31, 338241895), (32, 666307205), (33, 773529912), (34, 1294757372), (35, 1396182291), (36, 1695183700), (37, 1986661051), (38, 2177026350), (39, 2456956037), (40, 2730485921), (41, 2820302411), (42, 3259730800), (43, 3345764771), (44, 3516065817), (45, 3600352804), (46, 4094571909), (47, 275423344), (48, 430227734), (49, 506948616), (50, 659060556), (51, 883997877), (52, 958139571), (53, 1322822218), (54, 1537002063), (55, 1747873779), (56, 1955562222), (57, 2024104815), (58, 2227730452), (59, 2361852424), (60, 2428436474), (61, 2756734187), (62, 3204031479), (63, 3329325298)] (by rfl) (by rfl) (by rfl) ?_) | ((with_reducible refine gate_dst (N := 11) rfl ?_); (try (refine gate_guard (by rfl) ?_; dsimp only)); refine Ar.vidx_event rfl (D := 11) rfl (T := 94) rfl Tryd.underlying94 (by kernel_rfl) Tryd.underlying31 (k := .u32) (n := 64) (l := [1116352408, 1899447441, 3049323471, 3921009573, 961987163, 1508970993, 2453635748, 2870763221, 3624381080, 310598401, 607225278, 1426881987, 1925078388, 2162078206, 2614888103, 3248222580, 3835390401, 4022224774, 264347078, 604807628, 770255983, 1249150122, 1555081692, 1996064986, 2554220882, 2821834349, 2952996808, 3210313671, 3336571891, 3584528711, 113926993, 338241895, 666307205, 773529912, 1294757372, 1396182291, 1695183700, 1986661051, 2177026350, 2456956037, 2730485921, 2820302411, 3259730800, 3345764771, 3516065817, 3600352804, 4094571909, 275423344, 430227734, 506948616, 659060556, 883997877, 958139571, 1322822218, 1537002063, 1747873779, 1955562222, 2024104815, 2227730452, 2361852424, 2428436474, 2756734187, 3204031479, 3329325298]) qg (j := a0) qg qo qo ?_))
     go_ret
     exact ⟨by first | rfl | (simp; done) | (simp [*]; done), by repeat (first | exact Drawn0.refl _ | apply Drawn0.step)⟩
    ·rw [if_neg c5] at H
     exact absurd H (by simp)
   ·rw [if_neg c4] at H
    exact absurd H (by simp)
mutual
def drawlotref04_Take.l0 : Nat → Int → List Int → List Int → List Int → Option (List Int)
 | 0, _, _, _, _ => none
 | k + 1, x7, x354000, x358000, x359000 => if x7 < 64 then (if 0 ≤ x7 then ((drawlotref04_Constant.f x7).bind fun t359 => ((drawlotref04_Round.f k x359000 (Ar.get 64 x358000 x7) t359).bind fun t360 => (drawlotref04_Take.l0 k (wrap64 (x7 + 1)) x354000 x358000 t360))) else (none)) else (drawlotref04_Take.l1 k 0 x354000 x359000)
def drawlotref04_Take.l1 : Nat → Int → List Int → List Int → Option (List Int)
 | 0, _, _, _ => none
 | k + 1, x8, x354000, x359000 => if x8 < 8 then (if 0 ≤ x8 then (drawlotref04_Take.l1 k (wrap64 (x8 + 1)) x354000 (Ar.set 8 x359000 x8 (((Ar.get 8 x359000 x8) + (Ar.get 8 x354000 x8)) % 4294967296))) else (none)) else (some x359000)
end
def drawlotref04_Take.f (k : Nat) (a0 : List Int) (a1 : List Int) : Option (List Int) := (drawlotref03_Of.f k a1).bind fun t356 => (drawlotref04_Take.l0 k 0 a0 t356 a0)
theorem drawlotref04_Take.mono_l : ∀ k, (∀ y0 y1 y2 y3, LeO (drawlotref04_Take.l0 k y0 y1 y2 y3) (drawlotref04_Take.l0 (k + 1) y0 y1 y2 y3)) ∧ (∀ y0 y1 y2, LeO (drawlotref04_Take.l1 k y0 y1 y2) (drawlotref04_Take.l1 (k + 1) y0 y1 y2))
 | 0 => ⟨fun _ _ _ _ r h => by simp [drawlotref04_Take.l0] at h, fun _ _ _ r h => by simp [drawlotref04_Take.l1] at h⟩
 | k + 1 => by
  obtain ⟨ih0, ih1⟩ := drawlotref04_Take.mono_l k
  refine ⟨?_, ?_⟩
  ·intro y0 y1 y2 y3
   unfold drawlotref04_Take.l0
   repeat' first
   | (with_reducible exact ih0 _ _ _ _)
   | (with_reducible exact ih1 _ _ _)
   | (with_reducible exact drawlotref03_Of.mono _ _)
   | (with_reducible exact drawlotref04_Round.mono _ _ _ _)
   | (with_reducible exact LeO.refl _)
   | (with_reducible exact LeO.none _)
   | (with_reducible refine LeO.ite ?_ ?_)
   | (with_reducible refine LeO.bind ?_ (fun _ => ?_))
   | exact ih0 _ _ _ _
   | exact ih1 _ _ _
   | exact drawlotref03_Of.mono _ _
   | exact drawlotref04_Round.mono _ _ _ _
   | exact LeO.none _
   | refine LeO.ite ?_ ?_
   | refine LeO.bind ?_ (fun _ => ?_)
  ·intro y0 y1 y2
   unfold drawlotref04_Take.l1
   repeat' first
   | (with_reducible exact ih0 _ _ _ _)
   | (with_reducible exact ih1 _ _ _)
   | (with_reducible exact drawlotref03_Of.mono _ _)
   | (with_reducible exact drawlotref04_Round.mono _ _ _ _)
   | (with_reducible exact LeO.refl _)
   | (with_reducible exact LeO.none _)
   | (with_reducible refine LeO.ite ?_ ?_)
   | (with_reducible refine LeO.bind ?_ (fun _ => ?_))
   | exact ih0 _ _ _ _
   | exact ih1 _ _ _
   | exact drawlotref03_Of.mono _ _
   | exact drawlotref04_Round.mono _ _ _ _
   | exact LeO.none _
   | refine LeO.ite ?_ ?_
   | refine LeO.bind ?_ (fun _ => ?_)
theorem drawlotref04_Take.mono : ∀ a0 a1 k, LeO (drawlotref04_Take.f k a0 a1) (drawlotref04_Take.f (k + 1) a0 a1) := by
 intro a0 a1 k
 obtain ⟨ih0, ih1⟩ := drawlotref04_Take.mono_l k
 unfold drawlotref04_Take.f
 repeat' first
   | (with_reducible exact ih0 _ _ _ _)
   | (with_reducible exact ih1 _ _ _)
   | (with_reducible exact drawlotref03_Of.mono _ _)
   | (with_reducible exact drawlotref04_Round.mono _ _ _ _)
   | (with_reducible exact LeO.refl _)
   | (with_reducible exact LeO.none _)
   | (with_reducible refine LeO.ite ?_ ?_)
   | (with_reducible refine LeO.bind ?_ (fun _ => ?_))
   | exact ih0 _ _ _ _
   | exact ih1 _ _ _
   | exact drawlotref03_Of.mono _ _
   | exact drawlotref04_Round.mono _ _ _ _
   | exact LeO.none _
   | refine LeO.ite ?_ ?_
   | refine LeO.bind ?_ (fun _ => ?_)
def drawlotref04_Take.T6 : Bool × List (List Nat × List Nat) := (true, [([], []), ([], []), ([1], [1]), ([2], [2]), ([], []), ([4], [4]), ([0, 3, 5, 5], [0, 3, 5]), ([6, 6, 0, 1, 2, 3, 4, 5, 6], [6])])
def drawlotref04_Take.B6 : List Nat := [0, 0, 2, 6, 0, 16, 63, 127]
theorem drawlotref04_Take.tab6 : rtab .any (opsOf Tryd.f44 6) = drawlotref04_Take.T6 := by kernel_rfl
theorem drawlotref04_Take.bits6 : waitsOk drawlotref04_Take.T6.2 drawlotref04_Take.B6 = true := by kernel_rfl
def drawlotref04_Take.T10 : Bool × List (List Nat × List Nat) := (true, [([], []), ([], []), ([1], [1]), ([2], [2]), ([], []), ([4], [4]), ([5], [5]), ([3, 6], [3, 6]), ([0, 0, 1, 2, 3, 4, 5, 6, 7], [0]), ([8, 7, 0, 1, 2, 3, 4, 5, 6, 7], [7, 8])])
def drawlotref04_Take.B10 : List Nat := [0, 0, 2, 6, 0, 16, 48, 126, 255, 511]
theorem drawlotref04_Take.tab10 : rtab .any (opsOf Tryd.f44 10) = drawlotref04_Take.T10 := by kernel_rfl
theorem drawlotref04_Take.bits10 : waitsOk drawlotref04_Take.T10.2 drawlotref04_Take.B10 = true := by kernel_rfl
set_option maxHeartbeats 8000000 in
set_option maxRecDepth 100000 in
theorem drawlotref04_Take.calls (k : Nat) (a0 : List Int) (a1 : List Int) (r : List Int) (w : World) (h : drawlotref04_Take.f k a0 a1 = some r) :
  Calls Tryd.prog 44 #[.agg (Ar.cells .u32 8 a0), .agg (Ar.cells .u8 64 a1)] w fun e w' => e = .returned (.agg (Ar.cells .u32 8 r)) ∧ Below w.heap.size w w' := by
 have HB := Aside0.mk (Below.refl w.heap.size w)
 have H : ((drawlotref03_Of.f k a1).bind fun t356 => (drawlotref04_Take.l0 k 0 a0 t356 a0)) = some r := h
 clear h
 replace H := Option.bind_eq_some_iff.mp H
 obtain ⟨t356, A30, H⟩ := H
 replace H : (drawlotref04_Take.l0 k 0 a0 t356 a0) = some r := H
 have A3 := Aside0.mk A30
 clear A30
 have H' := Aside0.mk H
 clear H
 go_enter Tryd.func44, Tryd.ntmps44
 go_wp2_with (first | ((with_reducible refine gate_dst (N := 2) rfl ?_); (try (refine gate_guard (by rfl) ?_; dsimp only)); refine qE (N := 2) (cs := (Ar.cells .u32 8 a0)) (t := 33) ?_; intro gb353 hg w4 hbox hb; have BK353 := Aside0.mk (hbox); have GW353 := Aside0.mk ((qe HB hg : w.heap.size ≤ gb353)); have GE353 := Aside0.mk ((qe HB hg : w.heap.size ≤ gb353)); replace HB := Aside0.mk (below_step (qs HB) hb); clear hb hbox hg) | ((with_reducible refine gate_dst (N := 3) rfl ?_); (try (refine gate_guard (by rfl) ?_; dsimp only)); refine qE (N := 3) (cs := (Ar.cells .u8 64 a1)) (t := 78) ?_; intro gb354 hg w5 hbox hb; have BK354 := Aside0.mk (hbox); have GW354 := Aside0.mk ((qe HB hg : w.heap.size ≤ gb354)); have GE354 := Aside0.mk ((qe HB hg : w.heap.size ≤ gb354)); replace HB := Aside0.mk (below_step (qs HB) hb); have NB353_354 := Aside0.mk ((qu BK353 hg : gb353 ≠ gb354)); have NB354_353 := Aside0.mk ((qw BK353 hg : gb354 ≠ gb353)); replace BK353 := Aside0.mk (qB BK353 hb); clear hb hbox hg) | ((with_reducible refine gate_dst (N := 4) rfl ?_); (try (refine gate_guard (by rfl) ?_; dsimp only)); refine qE (N := 4) (cs := (Ar.cells .u32 8 (List.replicate 8 0))) (t := 33) ?_; intro gb355 hg w6 hbox hb; have BK355 := Aside0.mk (hbox); have GW355 := Aside0.mk ((qe HB hg : w.heap.size ≤ gb355)); have GE355 := Aside0.mk ((qe HB hg : w.heap.size ≤ gb355)); replace HB := Aside0.mk (below_step (qs HB) hb); have NB353_355 := Aside0.mk ((qu BK353 hg : gb353 ≠ gb355)); have NB355_353 := Aside0.mk ((qw BK353 hg : gb355 ≠ gb353)); replace BK353 := Aside0.mk (qB BK353 hb); have NB354_355 := Aside0.mk ((qu BK354 hg : gb354 ≠ gb355)); have NB355_354 := Aside0.mk ((qw BK354 hg : gb355 ≠ gb354)); replace BK354 := Aside0.mk (qB BK354 hb); clear hb hbox hg) | ((with_reducible refine gate_dst (N := 9) rfl ?_); (try (refine gate_guard (by rfl) ?_; dsimp only)); refine Ar.load_event rfl (D := 9) rfl (T := 78) rfl Tryd.underlying78 (by kernel_rfl) (g := gb354) rfl (qb BK354) ?_) | ((with_reducible refine gate_callee (f := 61) rfl ?_); refine goesL_ (some 10) rfl rfl Tryd.func61 (by kernel_rfl) rfl #[.agg (Ar.cells .u8 64 a1)] rfl ql ?_; (with_reducible refine (drawlotref03_Of.calls k a1 t356 _ A3.out).mono ?_); rintro e w7 ⟨rfl, hb⟩; refine ⟨_, rfl, ?_⟩; replace BK353 := Aside0.mk (qB BK353 hb); replace BK354 := Aside0.mk (qB BK354 hb); replace BK355 := Aside0.mk (qB BK355 hb); replace HB := Aside0.mk (below_step (qs HB) hb); (try clear hb); (try clear hb2); (try clear hk); (try clear hi)) | ((with_reducible refine gate_dst (N := 5) rfl ?_); (try (refine gate_guard (by rfl) ?_; dsimp only)); refine qE (N := 5) (cs := (Ar.cells .u32 64 (List.replicate 64 0))) (t := 95) ?_; intro gb357 hg w8 hbox hb; have BK357 := Aside0.mk (hbox); have GW357 := Aside0.mk ((qe HB hg : w.heap.size ≤ gb357)); have GE357 := Aside0.mk ((qe HB hg : w.heap.size ≤ gb357)); replace HB := Aside0.mk (below_step (qs HB) hb); have NB353_357 := Aside0.mk ((qu BK353 hg : gb353 ≠ gb357)); have NB357_353 := Aside0.mk ((qw BK353 hg : gb357 ≠ gb353)); replace BK353 := Aside0.mk (qB BK353 hb); have NB354_357 := Aside0.mk ((qu BK354 hg : gb354 ≠ gb357)); have NB357_354 := Aside0.mk ((qw BK354 hg : gb357 ≠ gb354)); replace BK354 := Aside0.mk (qB BK354 hb); have NB355_357 := Aside0.mk ((qu BK355 hg : gb355 ≠ gb357)); have NB357_355 := Aside0.mk ((qw BK355 hg : gb357 ≠ gb355)); replace BK355 := Aside0.mk (qB BK355 hb); clear hb hbox hg) | ((with_reducible refine gate_store (t := 95) (p := 5) rfl ?_); refine Ar.store_all_event rfl rfl rfl Tryd.underlying95 (by kernel_rfl) (g := gb357) rfl (z := t356) qg (qb BK357) ?_; intro w9 hbk_ hg; replace BK353 := Aside0.mk (qG BK353 hg (fun e_ => NB353_357.out (Option.some.inj e_))); replace BK354 := Aside0.mk (qG BK354 hg (fun e_ => NB354_357.out (Option.some.inj e_))); replace BK355 := Aside0.mk (qG BK355 hg (fun e_ => NB355_357.out (Option.some.inj e_))); replace BK357 := Aside0.mk (hbk_); replace HB := Aside0.mk (Below.grown (qs HB) hg ((below_size (qs HB))) (fun _ e_ => by cases e_; exact GE357.out)); clear hbk_ hg) | ((with_reducible refine gate_dst (N := 11) rfl ?_); (try (refine gate_guard (by rfl) ?_; dsimp only)); refine Ar.load_event rfl (D := 11) rfl (T := 33) rfl Tryd.underlying33 (by kernel_rfl) (g := gb353) rfl (qb BK353) ?_) | ((with_reducible refine gate_dst (N := 6) rfl ?_); (try (refine gate_guard (by rfl) ?_; dsimp only)); refine qE (N := 6) (cs := (Ar.cells .u32 8 (List.replicate 8 0))) (t := 33) ?_; intro gb358 hg w10 hbox hb; have BK358 := Aside0.mk (hbox); have GW358 := Aside0.mk ((qe HB hg : w.heap.size ≤ gb358)); have GE358 := Aside0.mk ((qe HB hg : w.heap.size ≤ gb358)); replace HB := Aside0.mk (below_step (qs HB) hb); have NB353_358 := Aside0.mk ((qu BK353 hg : gb353 ≠ gb358)); have NB358_353 := Aside0.mk ((qw BK353 hg : gb358 ≠ gb353)); replace BK353 := Aside0.mk (qB BK353 hb); have NB354_358 := Aside0.mk ((qu BK354 hg : gb354 ≠ gb358)); have NB358_354 := Aside0.mk ((qw BK354 hg : gb358 ≠ gb354)); replace BK354 := Aside0.mk (qB BK354 hb); have NB355_358 := Aside0.mk ((qu BK355 hg : gb355 ≠ gb358)); have NB358_355 := Aside0.mk ((qw BK355 hg : gb358 ≠ gb355)); replace BK355 := Aside0.mk (qB BK355 hb); have NB357_358 := Aside0.mk ((qu BK357 hg : gb357 ≠ gb358)); have NB358_357 := Aside0.mk ((qw BK357 hg : gb358 ≠ gb357)); replace BK357 := Aside0.mk (qB BK357 hb); clear hb hbox hg) | ((with_reducible refine gate_store (t := 33) (p := 6) rfl ?_); refine Ar.store_all_event rfl rfl rfl Tryd.underlying33 (by kernel_rfl) (g := gb358) rfl (z := a0) qg (qb BK358) ?_; intro w11 hbk_ hg; replace BK353 := Aside0.mk (qG BK353 hg (fun e_ => NB353_358.out (Option.some.inj e_))); replace BK354 := Aside0.mk (qG BK354 hg (fun e_ => NB354_358.out (Option.some.inj e_))); replace BK355 := Aside0.mk (qG BK355 hg (fun e_ => NB355_358.out (Option.some.inj e_))); replace BK357 := Aside0.mk (qG BK357 hg (fun e_ => NB357_358.out (Option.some.inj e_))); replace BK358 := Aside0.mk (hbk_); replace HB := Aside0.mk (Below.grown (qs HB) hg ((below_size (qs HB))) (fun _ e_ => by cases e_; exact GE358.out)); clear hbk_ hg))
 go_loopg [7] k (fun kq v7 w' => ∃ (x7_1 : Int) (x359000_1 : List Int), v7 = .int .i64 x7_1 ∧ Aside0 (drawlotref04_Take.l0 kq x7_1 a0 t356 x359000_1 = some r) ∧ Aside0 (kq ≤ k) ∧ Aside0 (w'.heap[gb353]? = some (.cells (Ar.cells .u32 8 a0) 33 (0, 0))) ∧ Aside0 (w'.heap[gb354]? = some (.cells (Ar.cells .u8 64 a1) 78 (0, 0))) ∧ Aside0 (w'.heap[gb355]? = some (.cells (Ar.cells .u32 8 (List.replicate 8 0)) 33 (0, 0))) ∧ Aside0 (w'.heap[gb357]? = some (.cells (Ar.cells .u32 64 t356) 95 (0, 0))) ∧ Aside0 (w'.heap[gb358]? = some (.cells (Ar.cells .u32 8 x359000_1) 33 (0, 0))) ∧ Aside0 (Below w.heap.size w w'))
 case atStart => exact ⟨(0), (a0), (by first | rfl | (simp; done) | (simp [*]; done)), H', ⟨Nat.le_refl _⟩, ⟨by (with_reducible repeat (first | refine blk_drewN ?_ _ | refine blk_drew ?_ | refine blk_alloc ?_ _)); exact BK353.out⟩, ⟨by (with_reducible repeat (first | refine blk_drewN ?_ _ | refine blk_drew ?_ | refine blk_alloc ?_ _)); exact BK354.out⟩, ⟨by (with_reducible repeat (first | refine blk_drewN ?_ _ | refine blk_drew ?_ | refine blk_alloc ?_ _)); exact BK355.out⟩, ⟨by (with_reducible repeat (first | refine blk_drewN ?_ _ | refine blk_drew ?_ | refine blk_alloc ?_ _)); exact BK357.out⟩, ⟨by (with_reducible repeat (first | refine blk_drewN ?_ _ | refine blk_drew ?_ | refine blk_alloc ?_ _)); exact BK358.out⟩, ⟨by repeat (first | (with_reducible first | exact HB.out | apply below_alloc | apply pw_below_drewN | apply below_drew1 | refine below_set ?_ GE353.out | refine below_set ?_ GE354.out | refine below_set ?_ GE355.out | refine below_set ?_ GE357.out | refine below_set ?_ GE358.out) | exact HB.out)⟩⟩
 case round =>
  clear H'
  try clear p2
  try clear c4
  try clear c6
  obtain ⟨x7_1, x359000_1, rfl, HA, HK1, BK353, BK354, BK355, BK357, BK358, HB⟩ := hrel
  cases gk with
  | zero => exact absurd HA.out (by simp [drawlotref04_Take.l0])
  | succ k1 =>
   have H := HA.out
   clear HA
   simp only [drawlotref04_Take.l0] at H
   by_cases c12 : x7_1 < 64
   ·rw [if_pos c12] at H
    have c12b0 : decide (x7_1 < 64) = true := decide_eq_true c12
    clear c12
    by_cases c13 : 0 ≤ x7_1
    ·rw [if_pos c13] at H
     have c13b0 : decide (0 ≤ x7_1) = true := decide_eq_true c13
     clear c13
     replace H := Option.bind_eq_some_iff.mp H
     obtain ⟨t359, A140, H⟩ := H
     replace H : ((drawlotref04_Round.f k1 x359000_1 (Ar.get 64 t356 x7_1) t359).bind fun t360 => (drawlotref04_Take.l0 k1 (wrap64 (x7_1 + 1)) a0 t356 t360)) = some r := H
     have A14 := Aside0.mk A140
     clear A140
     replace H := Option.bind_eq_some_iff.mp H
     obtain ⟨t360, A150, H⟩ := H
     replace H : (drawlotref04_Take.l0 k1 (wrap64 (x7_1 + 1)) a0 t356 t360) = some r := H
     have A15 := Aside0.mk A150
     clear A150
     have H' := Aside0.mk H
     clear H
     try go_wp2
     replace BK353 := Aside0.mk (blk_drew BK353.out)
     replace BK354 := Aside0.mk (blk_drew BK354.out)
     replace BK355 := Aside0.mk (blk_drew BK355.out)
     replace BK357 := Aside0.mk (blk_drew BK357.out)
     replace BK358 := Aside0.mk (blk_drew BK358.out)
     replace HB := Aside0.mk (below_drew1 HB.out)
     have p17 : (0 ≤ (x7_1 : Int)) = True := eq_true qo
     have q17 : ((x7_1 : Int) < 64) = True := eq_true qo
     refine start_ (n := 8) (S := fun w' => w'.heap[gb358]? = some (.cells (Ar.cells .u32 8 x359000_1) 33 (0, 0)) ∧ w'.cell? ⟨gb357, (x7_1 : Int).toNat, none⟩ = some (.int .u32 (Ar.get 64 t356 x7_1))) (ds := [7]) #[false, false, false, false, false, false, false, false] (by kernel_rfl) rfl rfl ⟨BK358.out, (Ar.cell_run (j := x7_1) BK357.out qo qo)⟩ (fun hHeld => ?_); refine with_tabW drawlotref04_Take.tab6 drawlotref04_Take.bits6 (fun HT_ HW_ => ?_)
     generalize wr.drew = w16 at BK353 BK354 BK355 BK357 BK358 HB hHeld ⊢
     refine pure_ (i := 1) (N := some 17) (v := ?_) (a' := ?_) #[false, true, false, false, false, false, false, false] rfl rfl (any_of HT_.out (by kernel_rfl)) (fun _ _ _ h => h) (Or.inl ⟨by rfl, ?_⟩) ?_ ?_
     rotate_left
     ·intro w'
      go_simp
      with_reducible rfl
     rotate_left
     ·simp only [Act.put, zA_, zB_, zC_, i64_w, i32_w]
      rfl
     refine pure_ (i := 2) (N := some 18) (v := ?_) (a' := ?_) #[false, true, true, false, false, false, false, false] rfl rfl (any_of HT_.out (by kernel_rfl)) (fun _ _ _ h => h) (Or.inl ⟨by rfl, ?_⟩) ?_ ?_
     rotate_left
     ·intro w'
      go_simp
      with_reducible rfl
     rotate_left
     ·simp only [Act.put, zA_, zB_, zC_, i64_w, i32_w]
      rfl
     refine pure_ (i := 4) (N := some 20) (v := ?_) (a' := ?_) #[false, true, true, false, true, false, false, false] rfl rfl (any_of HT_.out (by kernel_rfl)) (fun _ _ _ h => h) (Or.inl ⟨by rfl, ?_⟩) ?_ ?_
     rotate_left
     ·intro w'
      go_simp
      with_reducible rfl
     rotate_left
     ·simp only [Act.put, zA_, zB_, zC_, i64_w, i32_w]
      rfl
     refine take_ (i := 0) (N := some 16) (v := ?_) (a' := ?_) #[true, true, true, false, true, false, false, false] rfl rfl (take_ofW HT_.out HW_.out (by kernel_rfl)) (fun _ _ _ h => h) (Or.inl ⟨by rfl, ?_⟩) hHeld ?_ ?_
     rotate_left
     ·rintro w' ⟨s0, s1⟩
      first | (refine (Ar.load_run rfl Tryd.underlying33 (by kernel_rfl) rfl (by assumption)).trans ?_; with_reducible rfl) | (go_simp; with_reducible rfl)
     rotate_left
     ·simp only [Act.put, zA_, zB_, zC_, i64_w, i32_w]
      rfl
     refine take_ (i := 3) (N := some 19) (v := ?_) (a' := ?_) #[true, true, true, true, true, false, false, false] rfl rfl (take_ofW HT_.out HW_.out (by kernel_rfl)) (fun _ _ _ h => h) (Or.inl ⟨by rfl, ?_⟩) hHeld ?_ ?_
     rotate_left
     ·rintro w' ⟨s0, s1⟩
      go_simp
      with_reducible rfl
     rotate_left
     ·simp only [Act.put, zA_, zB_, zC_, i64_w, i32_w]
      rfl
     refine one_ (i := 5) (N := some 21) #[true, true, true, true, true, true, false, false] rfl rfl (one_of HT_.out (by kernel_rfl)) (by decide) (fun K hK => ?_)
     refine goes_ Tryd.func63 (by kernel_rfl) rfl #[.int .i64 x7_1] (by rfl) rfl rfl ql ?_
     with_reducible refine (drawlotref04_Constant.calls x7_1 t359 _ A14.out).mono ?_
     rintro e w' ⟨rfl, ⟨nd, rfl⟩⟩
     refine ⟨_, rfl, ?_⟩
     refine hK.out _ _ ⟨BK358.out, (Ar.cell_run (j := x7_1) BK357.out qo qo)⟩ (fun hHeld => ?_)
     clear hK K
     refine norm_ (a' := ?_) ?_ ?_
     rotate_left
     ·show Act.put _ (some 21) _ = _
      simp only [Act.put, zA_, zB_, zC_, i64_w, i32_w]
      rfl
     refine one_ (i := 6) (N := some 22) #[true, true, true, true, true, true, true, false] rfl rfl (one_of HT_.out (by kernel_rfl)) (by decide) (fun K hK => ?_)
     refine goes_ Tryd.func62 (by kernel_rfl) rfl #[.agg (Ar.cells .u32 8 x359000_1), .int .u32 (Ar.get 64 t356 x7_1), .int .u32 t359] (by rfl) rfl rfl ql ?_
     with_reducible refine (drawlotref04_Round.calls k1 x359000_1 (Ar.get 64 t356 x7_1) t359 t360 _ A15.out).mono ?_
     rintro e w18 ⟨rfl, hb⟩
     refine ⟨_, rfl, ?_⟩
     replace BK353 := Aside0.mk (qB BK353 hb)
     replace BK354 := Aside0.mk (qB BK354 hb)
     replace BK355 := Aside0.mk (qB BK355 hb)
     replace BK357 := Aside0.mk (qB BK357 hb)
     replace BK358 := Aside0.mk (qB BK358 hb)
     replace HB := Aside0.mk (below_step (qs HB) hb)
     (try clear hb)
     (try clear hb2)
     (try clear hk)
     (try clear hi)
     refine hK.out _ _ ⟨BK358.out, (Ar.cell_run (j := x7_1) BK357.out qo qo)⟩ (fun hHeld => ?_)
     clear hK K
     refine norm_ (a' := ?_) ?_ ?_
     rotate_left
     ·show Act.put _ (some 22) _ = _
      simp only [Act.put, zA_, zB_, zC_, i64_w, i32_w]
      rfl
     refine last_ (i := 7) (N := none) #[true, true, true, true, true, true, true, true] rfl rfl (one_of HT_.out (by kernel_rfl)) (by decide) (fun K hK => ?_)
     refine Ar.store_all_step (by rfl) rfl rfl Tryd.underlying33 (by kernel_rfl) (g := gb358) rfl (z := t360) qg (qb BK358) ?_; intro w19 hbk_ hg
     replace BK353 := Aside0.mk (qG BK353 hg (fun e_ => NB353_358.out (Option.some.inj e_)))
     replace BK354 := Aside0.mk (qG BK354 hg (fun e_ => NB354_358.out (Option.some.inj e_)))
     replace BK355 := Aside0.mk (qG BK355 hg (fun e_ => NB355_358.out (Option.some.inj e_)))
     replace BK357 := Aside0.mk (qG BK357 hg (fun e_ => NB357_358.out (Option.some.inj e_)))
     replace BK358 := Aside0.mk (hbk_)
     replace HB := Aside0.mk (Below.grown (qs HB) hg ((below_size (qs HB))) (fun _ e_ => by cases e_; exact GE358.out))
     clear hbk_ hg
     refine hK.out _ _ ?_
     clear hK K
     refine done_ (done_of HT_.out (by kernel_rfl)) ?_
     try go_wp2
     go_roundg k1
     case measure => have := HK1.out; omega
     case rel => exact ⟨(wrap64 (x7_1 + 1)), (t360), (by first | rfl | (simp; done) | (simp [*]; done)), H', ⟨by have := HK1.out; omega⟩, ⟨by (with_reducible repeat (first | refine blk_drewN ?_ _ | refine blk_drew ?_ | refine blk_alloc ?_ _)); exact BK353.out⟩, ⟨by (with_reducible repeat (first | refine blk_drewN ?_ _ | refine blk_drew ?_ | refine blk_alloc ?_ _)); exact BK354.out⟩, ⟨by (with_reducible repeat (first | refine blk_drewN ?_ _ | refine blk_drew ?_ | refine blk_alloc ?_ _)); exact BK355.out⟩, ⟨by (with_reducible repeat (first | refine blk_drewN ?_ _ | refine blk_drew ?_ | refine blk_alloc ?_ _)); exact BK357.out⟩, ⟨by (with_reducible repeat (first | refine blk_drewN ?_ _ | refine blk_drew ?_ | refine blk_alloc ?_ _)); exact BK358.out⟩, ⟨by repeat (first | (with_reducible first | exact HB.out | apply below_alloc | apply pw_below_drewN | apply below_drew1 | refine below_set ?_ GE353.out | refine below_set ?_ GE354.out | refine below_set ?_ GE355.out | refine below_set ?_ GE357.out | refine below_set ?_ GE358.out) | exact HB.out)⟩⟩
    ·rw [if_neg c13] at H
     exact absurd H (by simp)
   ·rw [if_neg c12] at H
    have c12b0 : decide (x7_1 < 64) = false := decide_eq_false c12
    clear c12
    have H' := Aside0.mk H
    clear H
    go_wp2
    go_loopg [8] k1 (fun kq v8 w' => ∃ (x8_2 : Int) (x359000_2 : List Int), v8 = .int .i64 x8_2 ∧ Aside0 (drawlotref04_Take.l1 kq x8_2 a0 x359000_2 = some r) ∧ Aside0 (kq ≤ k1) ∧ Aside0 (w'.heap[gb353]? = some (.cells (Ar.cells .u32 8 a0) 33 (0, 0))) ∧ Aside0 (w'.heap[gb354]? = some (.cells (Ar.cells .u8 64 a1) 78 (0, 0))) ∧ Aside0 (w'.heap[gb355]? = some (.cells (Ar.cells .u32 8 (List.replicate 8 0)) 33 (0, 0))) ∧ Aside0 (w'.heap[gb357]? = some (.cells (Ar.cells .u32 64 t356) 95 (0, 0))) ∧ Aside0 (w'.heap[gb358]? = some (.cells (Ar.cells .u32 8 x359000_2) 33 (0, 0))) ∧ Aside0 (Below w.heap.size w w'))
    case atStart => exact ⟨(0), (x359000_1), (by first | rfl | (simp; done) | (simp [*]; done)), H', ⟨Nat.le_refl _⟩, ⟨by (with_reducible repeat (first | refine blk_drewN ?_ _ | refine blk_drew ?_ | refine blk_alloc ?_ _)); exact BK353.out⟩, ⟨by (with_reducible repeat (first | refine blk_drewN ?_ _ | refine blk_drew ?_ | refine blk_alloc ?_ _)); exact BK354.out⟩, ⟨by (with_reducible repeat (first | refine blk_drewN ?_ _ | refine blk_drew ?_ | refine blk_alloc ?_ _)); exact BK355.out⟩, ⟨by (with_reducible repeat (first | refine blk_drewN ?_ _ | refine blk_drew ?_ | refine blk_alloc ?_ _)); exact BK357.out⟩, ⟨by (with_reducible repeat (first | refine blk_drewN ?_ _ | refine blk_drew ?_ | refine blk_alloc ?_ _)); exact BK358.out⟩, ⟨by repeat (first | (with_reducible first | exact HB.out | apply below_alloc | apply pw_below_drewN | apply below_drew1 | refine below_set ?_ GE353.out | refine below_set ?_ GE354.out | refine below_set ?_ GE355.out | refine below_set ?_ GE357.out | refine below_set ?_ GE358.out) | exact HB.out)⟩⟩
    case round =>
     clear H'
     try clear c1
     try clear p1
     try clear q1
     try clear p2
     try clear c4
     try clear c6
     try clear p6
     try clear c12
     try clear c12b0
     try clear c13
     try clear c13b0
     try clear p17
     try clear q17
     try clear p17
     try clear p2
     try clear q17
     obtain ⟨x8_2, x359000_2, rfl, HA, HK2, BK353, BK354, BK355, BK357, BK358, HB⟩ := hrel
     cases gk with
     | zero => exact absurd HA.out (by simp [drawlotref04_Take.l1])
     | succ k2 =>
      have H := HA.out
      clear HA
      simp only [drawlotref04_Take.l1] at H
      by_cases c20 : x8_2 < 8
      ·rw [if_pos c20] at H
       have c20b0 : decide (x8_2 < 8) = true := decide_eq_true c20
       clear c20
       by_cases c21 : 0 ≤ x8_2
       ·rw [if_pos c21] at H
        have c21b0 : decide (0 ≤ x8_2) = true := decide_eq_true c21
        clear c21
        obtain ⟨y361, hy361⟩ : ∃ y_ : List Int, y_ = (Ar.set 8 x359000_2 x8_2 (((Ar.get 8 x359000_2 x8_2) + (Ar.get 8 a0 x8_2)) % 4294967296)) := ⟨_, rfl⟩
        replace H : (drawlotref04_Take.l1 k2 (wrap64 (x8_2 + 1)) a0 y361) = some r := by first | (rw [hy361]; with_reducible exact H) | (have H2_ := (Option.bind_some _ _).symm.trans H; rw [hy361]; with_reducible exact H2_) | (have H2_ := (Option.bind_some _ _).symm.trans H; with_reducible exact H2_) | with_reducible exact H | (rw [hy361]; exact H) | exact H
        have Ny361 := Aside0.mk hy361
        clear hy361
        have H' := Aside0.mk H
        clear H
        try go_wp2
        replace BK353 := Aside0.mk (blk_drew BK353.out)
        replace BK354 := Aside0.mk (blk_drew BK354.out)
        replace BK355 := Aside0.mk (blk_drew BK355.out)
        replace BK357 := Aside0.mk (blk_drew BK357.out)
        replace BK358 := Aside0.mk (blk_drew BK358.out)
        replace HB := Aside0.mk (below_drew1 HB.out)
        have p23 : (0 ≤ (x8_2 : Int)) = True := eq_true qo
        have q23 : ((x8_2 : Int) < 8) = True := eq_true qo
        have p24 : (0 ≤ (x8_2 : Int)) = True := eq_true qo
        have q24 : ((x8_2 : Int) < 8) = True := eq_true qo
        have p25 : (0 ≤ (x8_2 : Int)) = True := eq_true qo
        have q25 : ((x8_2 : Int) < 8) = True := eq_true qo
        refine start_ (n := 10) (S := fun w' => w'.cell? ⟨gb358, (x8_2 : Int).toNat, none⟩ = some (.int .u32 (Ar.get 8 x359000_2 x8_2)) ∧ w'.cell? ⟨gb353, (x8_2 : Int).toNat, none⟩ = some (.int .u32 (Ar.get 8 a0 x8_2))) (ds := [9]) #[false, false, false, false, false, false, false, false, false, false] (by kernel_rfl) rfl rfl ⟨(Ar.cell_run (j := x8_2) BK358.out qo qo), (Ar.cell_run (j := x8_2) BK353.out qo qo)⟩ (fun hHeld => ?_); refine with_tabW drawlotref04_Take.tab10 drawlotref04_Take.bits10 (fun HT_ HW_ => ?_)
        generalize wr.drew = w22 at BK353 BK354 BK355 BK357 BK358 HB hHeld ⊢
        refine pure_ (i := 0) (N := some 27) (v := ?_) (a' := ?_) #[true, false, false, false, false, false, false, false, false, false] rfl rfl (any_of HT_.out (by kernel_rfl)) (fun _ _ _ h => h) (Or.inl ⟨by rfl, ?_⟩) ?_ ?_
        rotate_left
        ·intro w'
         go_simp
         with_reducible rfl
        rotate_left
        ·simp only [Act.put, zA_, zB_, zC_, i64_w, i32_w]
         rfl
        refine pure_ (i := 1) (N := some 28) (v := ?_) (a' := ?_) #[true, true, false, false, false, false, false, false, false, false] rfl rfl (any_of HT_.out (by kernel_rfl)) (fun _ _ _ h => h) (Or.inl ⟨by rfl, ?_⟩) ?_ ?_
        rotate_left
        ·intro w'
         go_simp
         with_reducible rfl
        rotate_left
        ·simp only [Act.put, zA_, zB_, zC_, i64_w, i32_w]
         rfl
        refine pure_ (i := 2) (N := some 29) (v := ?_) (a' := ?_) #[true, true, true, false, false, false, false, false, false, false] rfl rfl (any_of HT_.out (by kernel_rfl)) (fun _ _ _ h => h) (Or.inl ⟨by rfl, ?_⟩) ?_ ?_
        rotate_left
        ·intro w'
         go_simp
         with_reducible rfl
        rotate_left
        ·simp only [Act.put, zA_, zB_, zC_, i64_w, i32_w]
         rfl
        refine pure_ (i := 4) (N := some 31) (v := ?_) (a' := ?_) #[true, true, true, false, true, false, false, false, false, false] rfl rfl (any_of HT_.out (by kernel_rfl)) (fun _ _ _ h => h) (Or.inl ⟨by rfl, ?_⟩) ?_ ?_
        rotate_left
        ·intro w'
         go_simp
         with_reducible rfl
        rotate_left
        ·simp only [Act.put, zA_, zB_, zC_, i64_w, i32_w]
         rfl
        refine pure_ (i := 5) (N := some 32) (v := ?_) (a' := ?_) #[true, true, true, false, true, true, false, false, false, false] rfl rfl (any_of HT_.out (by kernel_rfl)) (fun _ _ _ h => h) (Or.inl ⟨by rfl, ?_⟩) ?_ ?_
        rotate_left
        ·intro w'
         go_simp
         with_reducible rfl
        rotate_left
        ·simp only [Act.put, zA_, zB_, zC_, i64_w, i32_w]
         rfl
        refine take_ (i := 3) (N := some 30) (v := ?_) (a' := ?_) #[true, true, true, true, true, true, false, false, false, false] rfl rfl (take_ofW HT_.out HW_.out (by kernel_rfl)) (fun _ _ _ h => h) (Or.inl ⟨by rfl, ?_⟩) hHeld ?_ ?_
        rotate_left
        ·rintro w' ⟨s0, s1⟩
         go_simp
         with_reducible rfl
        rotate_left
        ·simp only [Act.put, zA_, zB_, zC_, i64_w, i32_w]
         rfl
        refine take_ (i := 6) (N := some 33) (v := ?_) (a' := ?_) #[true, true, true, true, true, true, true, false, false, false] rfl rfl (take_ofW HT_.out HW_.out (by kernel_rfl)) (fun _ _ _ h => h) (Or.inl ⟨by rfl, ?_⟩) hHeld ?_ ?_
        rotate_left
        ·rintro w' ⟨s0, s1⟩
         go_simp
         with_reducible rfl
        rotate_left
        ·simp only [Act.put, zA_, zB_, zC_, i64_w, i32_w]
         rfl
        refine pure_ (i := 7) (N := some 34) (v := ?_) (a' := ?_) #[true, true, true, true, true, true, true, true, false, false] rfl rfl (any_of HT_.out (by kernel_rfl)) (fun _ _ _ h => h) (Or.inl ⟨by rfl, ?_⟩) ?_ ?_
        rotate_left
        ·intro w'
         go_simp
         with_reducible rfl
        rotate_left
        ·simp only [Act.put, zA_, zB_, zC_, i64_w, i32_w]
         rfl
        refine pure_ (i := 8) (N := some 35) (v := ?_) (a' := ?_) #[true, true, true, true, true, true, true, true, true, false] rfl rfl (any_of HT_.out (by kernel_rfl)) (fun _ _ _ h => h) (Or.inl ⟨by rfl, ?_⟩) ?_ ?_
        rotate_left
        ·intro w'
         go_simp
         with_reducible rfl
        rotate_left
        ·simp only [Act.put, zA_, zB_, zC_, i64_w, i32_w]
         rfl
        refine last_ (i := 9) (N := none) #[true, true, true, true, true, true, true, true, true, true] rfl rfl (one_of HT_.out (by kernel_rfl)) (by decide) (fun K hK => ?_)
        refine Ar.put_step (by rfl) rfl rfl (by kernel_rfl) (g := gb358) (j := x8_2) rfl (z := (((Ar.get 8 x359000_2 x8_2) + (Ar.get 8 a0 x8_2)) % 4294967296)) qg (qb BK358) qo qo ?_; intro w26 hbk_ hg
        rw [← Ny361.out] at hbk_
        replace BK353 := Aside0.mk (qG BK353 hg (fun e_ => NB353_358.out (Option.some.inj e_)))
        replace BK354 := Aside0.mk (qG BK354 hg (fun e_ => NB354_358.out (Option.some.inj e_)))
        replace BK355 := Aside0.mk (qG BK355 hg (fun e_ => NB355_358.out (Option.some.inj e_)))
        replace BK357 := Aside0.mk (qG BK357 hg (fun e_ => NB357_358.out (Option.some.inj e_)))
        replace BK358 := Aside0.mk (hbk_)
        replace HB := Aside0.mk (Below.grown (qs HB) hg ((below_size (qs HB))) (fun _ e_ => by cases e_; exact GE358.out))
        clear hbk_ hg
        refine hK.out _ _ ?_
        clear hK K
        refine done_ (done_of HT_.out (by kernel_rfl)) ?_
        try go_wp2
        go_roundg k2
        case measure => have := HK1.out; have := HK2.out; omega
        case rel => exact ⟨(wrap64 (x8_2 + 1)), (y361), (by first | rfl | (simp; done) | (simp [*]; done)), H', ⟨by have := HK1.out; have := HK2.out; omega⟩, ⟨by (with_reducible repeat (first | refine blk_drewN ?_ _ | refine blk_drew ?_ | refine blk_alloc ?_ _)); exact BK353.out⟩, ⟨by (with_reducible repeat (first | refine blk_drewN ?_ _ | refine blk_drew ?_ | refine blk_alloc ?_ _)); exact BK354.out⟩, ⟨by (with_reducible repeat (first | refine blk_drewN ?_ _ | refine blk_drew ?_ | refine blk_alloc ?_ _)); exact BK355.out⟩, ⟨by (with_reducible repeat (first | refine blk_drewN ?_ _ | refine blk_drew ?_ | refine blk_alloc ?_ _)); exact BK357.out⟩, ⟨by (with_reducible repeat (first | refine blk_drewN ?_ _ | refine blk_drew ?_ | refine blk_alloc ?_ _)); exact BK358.out⟩, ⟨by repeat (first | (with_reducible first | exact HB.out | apply below_alloc | apply pw_below_drewN | apply below_drew1 | refine below_set ?_ GE353.out | refine below_set ?_ GE354.out | refine below_set ?_ GE355.out | refine below_set ?_ GE357.out | refine below_set ?_ GE358.out) | exact HB.out)⟩⟩
       ·rw [if_neg c21] at H
        exact absurd H (by simp)
      ·rw [if_neg c20] at H
       have c20b0 : decide (x8_2 < 8) = false := decide_eq_false c20
       clear c20
       obtain rfl := Option.some.inj H
       go_wp2_with (first | ((with_reducible refine gate_dst (N := 36) rfl ?_); (try (refine gate_guard (by rfl) ?_; dsimp only)); refine Ar.load_event rfl (D := 36) rfl (T := 33) rfl Tryd.underlying33 (by kernel_rfl) (g := gb358) rfl (qb BK358) ?_) | ((with_reducible refine gate_store (t := 33) (p := 4) rfl ?_); refine Ar.store_all_event rfl rfl rfl Tryd.underlying33 (by kernel_rfl) (g := gb355) rfl (z := x359000_2) qg (qb BK355) ?_; intro w27 hbk_ hg; replace BK353 := Aside0.mk (qG BK353 hg (fun e_ => NB353_355.out (Option.some.inj e_))); replace BK354 := Aside0.mk (qG BK354 hg (fun e_ => NB354_355.out (Option.some.inj e_))); replace BK357 := Aside0.mk (qG BK357 hg (fun e_ => NB357_355.out (Option.some.inj e_))); replace BK358 := Aside0.mk (qG BK358 hg (fun e_ => NB358_355.out (Option.some.inj e_))); replace BK355 := Aside0.mk (hbk_); replace HB := Aside0.mk (Below.grown (qs HB) hg ((below_size (qs HB))) (fun _ e_ => by cases e_; exact GE355.out)); clear hbk_ hg))
       refine bodyPost_ret (results_cell_row rfl _ _ gb355 33 (Ar.cells .u32 8 x359000_2) (0, 0) _ rfl (qb BK355) Tryd.underlying33 rfl qZ) rfl ?_
       exact ⟨by first | rfl | (simp [errW_none, errW_some] <;> rfl) | (simp [*, errW_none, errW_some] <;> rfl), by repeat (first | (with_reducible first | exact HB.out | apply below_alloc | apply pw_below_drewN | apply below_drew1 | refine below_set ?_ GE353.out | refine below_set ?_ GE354.out | refine below_set ?_ GE355.out | refine below_set ?_ GE357.out | refine below_set ?_ GE358.out) | exact HB.out)⟩
def drawlotref05_take.l0 : Nat → List (List Int) → Int → List Int → Option (List Int)
 | 0, _, _, _ => none
 | k + 1, x1, x5, x363000 => if x5 < (x1.length : Int) then (if 0 ≤ x5 then ((drawlotref04_Take.f k x363000 (rd_L2 x1 x5)).bind fun t365 => (drawlotref05_take.l0 k x1 (wrap64 (x5 + 1)) t365)) else (none)) else (some x363000)
def drawlotref05_take.f (k : Nat) (a0 : List Int) (l1 : List (List Int)) : Option (List Int) := drawlotref05_take.l0 k l1 0 a0
theorem drawlotref05_take.mono_l : ∀ k, (∀ y0 y1 y2, LeO (drawlotref05_take.l0 k y0 y1 y2) (drawlotref05_take.l0 (k + 1) y0 y1 y2))
 | 0 => fun _ _ _ r h => by simp [drawlotref05_take.l0] at h
 | k + 1 => by
  have ih0 := drawlotref05_take.mono_l k
  ·intro y0 y1 y2
   unfold drawlotref05_take.l0
   repeat' first
   | (with_reducible exact ih0 _ _ _)
   | (with_reducible exact drawlotref04_Take.mono _ _ _)
   | (with_reducible exact LeO.refl _)
   | (with_reducible exact LeO.none _)
   | (with_reducible refine LeO.ite ?_ ?_)
   | (with_reducible refine LeO.bind ?_ (fun _ => ?_))
   | exact ih0 _ _ _
   | exact drawlotref04_Take.mono _ _ _
   | exact LeO.none _
   | refine LeO.ite ?_ ?_
   | refine LeO.bind ?_ (fun _ => ?_)
theorem drawlotref05_take.mono : ∀ a0 a1 k, LeO (drawlotref05_take.f k a0 a1) (drawlotref05_take.f (k + 1) a0 a1) := by
 intro a0 a1 k
 have ih0 := drawlotref05_take.mono_l k
 unfold drawlotref05_take.f
 repeat' first
   | (with_reducible exact ih0 _ _ _)
   | (with_reducible exact drawlotref04_Take.mono _ _ _)
   | (with_reducible exact LeO.refl _)
   | (with_reducible exact LeO.none _)
   | (with_reducible refine LeO.ite ?_ ?_)
   | (with_reducible refine LeO.bind ?_ (fun _ => ?_))
   | exact ih0 _ _ _
   | exact drawlotref04_Take.mono _ _ _
   | exact LeO.none _
   | refine LeO.ite ?_ ?_
   | refine LeO.bind ?_ (fun _ => ?_)
set_option maxHeartbeats 8000000 in
set_option maxRecDepth 100000 in
theorem drawlotref05_take.calls (k : Nat) (a0 : List Int) (A1 : Option Addr) (c1 : Nat) (l1 : List (List Int)) (r : List Int) (w : World) (hr1 : Kd.C (Ar.K .u8 64) w A1 l1.length l1) (hc1 : l1.length ≤ c1) (h : drawlotref05_take.f k a0 l1 = some r) :
  Calls Tryd.prog 29 #[.agg (Ar.cells .u32 8 a0), .slice A1 l1.length c1] w fun e w' => e = .returned (.agg (Ar.cells .u32 8 r)) ∧ Below w.heap.size w w' := by
 have HR1 := Aside0.mk hr1
 have HC1 := Aside0.mk hc1
 clear hr1 hc1
 have HB := Aside0.mk (Below.refl w.heap.size w)
 have H : (drawlotref05_take.l0 k l1 0 a0) = some r := h
 clear h
 have H' := Aside0.mk H
 clear H
 go_enter Tryd.func29, Tryd.ntmps29
 go_wp2_with (first | ((with_reducible refine gate_dst (N := 2) rfl ?_); (try (refine gate_guard (by rfl) ?_; dsimp only)); refine qE (N := 2) (cs := (Ar.cells .u32 8 a0)) (t := 33) ?_; intro gb362 hg w3 hbox hb; have BK362 := Aside0.mk (hbox); have GW362 := Aside0.mk ((qe HB hg : w.heap.size ≤ gb362)); have GE362 := Aside0.mk ((qe HB hg : w.heap.size ≤ gb362)); replace HB := Aside0.mk (below_step (qs HB) hb); clear hb hbox hg) | ((with_reducible refine gate_dst (N := 4) rfl ?_); (try (refine gate_guard (by rfl) ?_; dsimp only)); refine qE (N := 4) (cs := (Ar.cells .u32 8 (List.replicate 8 0))) (t := 33) ?_; intro gb363 hg w4 hbox hb; have BK363 := Aside0.mk (hbox); have GW363 := Aside0.mk ((qe HB hg : w.heap.size ≤ gb363)); have GE363 := Aside0.mk ((qe HB hg : w.heap.size ≤ gb363)); replace HB := Aside0.mk (below_step (qs HB) hb); have NB362_363 := Aside0.mk ((qu BK362 hg : gb362 ≠ gb363)); have NB363_362 := Aside0.mk ((qw BK362 hg : gb363 ≠ gb362)); replace BK362 := Aside0.mk (qB BK362 hb); clear hb hbox hg))
 go_loopg [5] k (fun kq v5 w' => ∃ (x5_1 : Int) (x363000_1 : List Int), v5 = .int .i64 x5_1 ∧ Aside0 (drawlotref05_take.l0 kq l1 x5_1 x363000_1 = some r) ∧ Aside0 (kq ≤ k) ∧ Aside0 (w'.heap[gb362]? = some (.cells (Ar.cells .u32 8 x363000_1) 33 (0, 0))) ∧ Aside0 (w'.heap[gb363]? = some (.cells (Ar.cells .u32 8 (List.replicate 8 0)) 33 (0, 0))) ∧ Aside0 (Below w.heap.size w w'))
 case atStart => exact ⟨(0), (a0), (by first | rfl | (simp; done) | (simp [*]; done)), H', ⟨Nat.le_refl _⟩, ⟨by (with_reducible repeat (first | refine blk_drewN ?_ _ | refine blk_drew ?_ | refine blk_alloc ?_ _)); exact BK362.out⟩, ⟨by (with_reducible repeat (first | refine blk_drewN ?_ _ | refine blk_drew ?_ | refine blk_alloc ?_ _)); exact BK363.out⟩, ⟨by repeat (first | (with_reducible first | exact HB.out | apply below_alloc | apply pw_below_drewN | apply below_drew1 | refine below_set ?_ GE362.out | refine below_set ?_ GE363.out) | exact HB.out)⟩⟩
 case round =>
  clear H'
  try clear c1
  try clear c2
  try clear p2
  obtain ⟨x5_1, x363000_1, rfl, HA, HK1, BK362, BK363, HB⟩ := hrel
  cases gk with
  | zero => exact absurd HA.out (by simp [drawlotref05_take.l0])
  | succ k1 =>
   have H := HA.out
   clear HA
   simp only [drawlotref05_take.l0] at H
   by_cases c5 : x5_1 < (l1.length : Int)
   ·rw [if_pos c5] at H
    have c5b0 : decide (x5_1 < (l1.length : Int)) = true := decide_eq_true c5
    clear c5
    by_cases c6 : 0 ≤ x5_1
    ·rw [if_pos c6] at H
     have c6b0 : decide (0 ≤ x5_1) = true := decide_eq_true c6
     clear c6
     replace H := Option.bind_eq_some_iff.mp H
     obtain ⟨t365, A70, H⟩ := H
     replace H : (drawlotref05_take.l0 k1 l1 (wrap64 (x5_1 + 1)) t365) = some r := H
     have A7 := Aside0.mk A70
     clear A70
     have H' := Aside0.mk H
     clear H
     try go_wp2
     replace BK362 := Aside0.mk (blk_drew BK362.out)
     replace BK363 := Aside0.mk (blk_drew BK363.out)
     replace HB := Aside0.mk (below_drew1 HB.out)
     have p364 : 0 ≤ (x5_1 : Int) := of_decide_eq_true qa
     have q364 : x5_1 < (l1.length : Int) := of_decide_eq_true qa
     obtain ⟨ad364, e364, hx364_0⟩ := atw_L2 HR1.out x5_1 p364 q364
     have hw364_0 := hx364_0
     cases e364
     (try simp only [Int.toNat_zero, Nat.zero_mul, Addr.add_zero'] at hx364_0)
     replace hx364_0 := (fun (j_ : Nat) (u_ : Value) hj_ => (HB.out.cell (World.block_lt_of_cell? w _ (hx364_0 j_ u_ hj_))).trans (hx364_0 j_ u_ hj_))
     replace p364 := eq_true p364
     replace q364 := eq_true q364
     refine start_ (n := 7) (S := fun w' => w'.heap[gb362]? = some (.cells (Ar.cells .u32 8 x363000_1) 33 (0, 0)) ∧ (∀ (j_ : Nat) (u_ : Value), (Ar.cells .u8 64 (rd_L2 l1 x5_1) : Array Value).toList[j_]? = some u_ → w'.cell? (ad364.add ((x5_1).toNat * 64 + j_)) = some u_)) (ds := [6]) #[false, false, false, false, false, false, false] (by kernel_rfl) rfl rfl ⟨BK362.out, (fun (j_ : Nat) (u_ : Value) hj_ => (HB.out.cell (World.block_lt_of_cell? w _ (hw364_0 j_ u_ hj_))).trans (hw364_0 j_ u_ hj_))⟩ (fun hHeld => ?_)
     generalize wr.drew = w8 at BK362 BK363 HB hx364_0 hHeld ⊢
     refine pure_ (i := 1) (N := some 13) (v := ?_) (a' := ?_) #[false, true, false, false, false, false, false] rfl rfl (by kernel_rfl) (fun _ _ _ h => h) (Or.inl ⟨by rfl, ?_⟩) ?_ ?_
     rotate_left
     ·intro w'
      go_simp
      with_reducible rfl
     rotate_left
     ·simp only [Act.put, zA_, zB_, zC_, i64_w, i32_w]
      rfl
     refine pure_ (i := 2) (N := some 14) (v := ?_) (a' := ?_) #[false, true, true, false, false, false, false] rfl rfl (by kernel_rfl) (fun _ _ _ h => h) (Or.inl ⟨by rfl, ?_⟩) ?_ ?_
     rotate_left
     ·intro w'
      go_simp
      with_reducible rfl
     rotate_left
     ·simp only [Act.put, zA_, zB_, zC_, i64_w, i32_w]
      rfl
     refine pure_ (i := 3) (N := some 15) (v := ?_) (a' := ?_) #[false, true, true, true, false, false, false] rfl rfl (by kernel_rfl) (fun _ _ _ h => h) (Or.inl ⟨by rfl, ?_⟩) ?_ ?_
     rotate_left
     ·intro w'
      go_simp
      with_reducible rfl
     rotate_left
     ·simp only [Act.put, zA_, zB_, zC_, i64_w, i32_w]
      rfl
     refine take_ (i := 0) (N := some 12) (v := ?_) (a' := ?_) #[true, true, true, true, false, false, false] rfl rfl (by kernel_rfl) (fun _ _ _ h => h) (Or.inl ⟨by rfl, ?_⟩) hHeld ?_ ?_
     rotate_left
     ·rintro w' ⟨s0, s1⟩
      first | (refine (Ar.load_run rfl Tryd.underlying33 (by kernel_rfl) rfl (by assumption)).trans ?_; with_reducible rfl) | (go_simp; with_reducible rfl)
     rotate_left
     ·simp only [Act.put, zA_, zB_, zC_, i64_w, i32_w]
      rfl
     refine take_ (i := 4) (N := some 16) (v := ?_) (a' := ?_) #[true, true, true, true, true, false, false] rfl rfl (by kernel_rfl) (fun _ _ _ h => h) (Or.inl ⟨by rfl, ?_⟩) hHeld ?_ ?_
     rotate_left
     ·rintro w' ⟨s0, s1⟩
      first | (refine (Ar.gload_run rfl Tryd.underlying78 rfl (D := (Ar.cells .u8 64 (rd_L2 l1 x5_1))) qz rfl (Ar.elem_part0 (by assumption) Ar.in_whole)).trans ?_; with_reducible rfl) | (go_simp; with_reducible rfl)
     rotate_left
     ·simp only [Act.put, zA_, zB_, zC_, i64_w, i32_w]
      rfl
     refine one_ (i := 5) (N := some 17) #[true, true, true, true, true, true, false] rfl rfl (by kernel_rfl) (by decide) (fun K hK => ?_)
     refine goes_ Tryd.func44 (by kernel_rfl) rfl #[.agg (Ar.cells .u32 8 x363000_1), .agg (Ar.cells .u8 64 (rd_L2 l1 x5_1))] (by rfl) rfl rfl ql ?_
     with_reducible refine (drawlotref04_Take.calls k1 x363000_1 (rd_L2 l1 x5_1) t365 _ A7.out).mono ?_
     rintro e w9 ⟨rfl, hb⟩
     refine ⟨_, rfl, ?_⟩
     replace BK362 := Aside0.mk (qB BK362 hb)
     replace BK363 := Aside0.mk (qB BK363 hb)
     replace HB := Aside0.mk (below_step (qs HB) hb)
     (try clear hb)
     (try clear hb2)
     (try clear hk)
     (try clear hi)
     refine hK.out _ _ ⟨BK362.out, (fun (j_ : Nat) (u_ : Value) hj_ => (HB.out.cell (World.block_lt_of_cell? w _ (hw364_0 j_ u_ hj_))).trans (hw364_0 j_ u_ hj_))⟩ (fun hHeld => ?_)
     clear hK K
     refine norm_ (a' := ?_) ?_ ?_
     rotate_left
     ·show Act.put _ (some 17) _ = _
      simp only [Act.put, zA_, zB_, zC_, i64_w, i32_w]
      rfl
     refine last_ (i := 6) (N := none) #[true, true, true, true, true, true, true] rfl rfl (by kernel_rfl) (by decide) (fun K hK => ?_)
     refine Ar.store_all_step (by rfl) rfl rfl Tryd.underlying33 (by kernel_rfl) (g := gb362) rfl (z := t365) qg (qb BK362) ?_; intro w10 hbk_ hg
     replace BK363 := Aside0.mk (qG BK363 hg (fun e_ => NB363_362.out (Option.some.inj e_)))
     replace BK362 := Aside0.mk (hbk_)
     replace HB := Aside0.mk (Below.grown (qs HB) hg ((below_size (qs HB))) (fun _ e_ => by cases e_; exact GE362.out))
     clear hbk_ hg
     refine hK.out _ _ ?_
     clear hK K
     refine done_ (by kernel_rfl) ?_
     try go_wp2
     go_roundg k1
     case measure => have := HK1.out; omega
     case rel => exact ⟨(wrap64 (x5_1 + 1)), (t365), (by first | rfl | (simp; done) | (simp [*]; done)), H', ⟨by have := HK1.out; omega⟩, ⟨by (with_reducible repeat (first | refine blk_drewN ?_ _ | refine blk_drew ?_ | refine blk_alloc ?_ _)); exact BK362.out⟩, ⟨by (with_reducible repeat (first | refine blk_drewN ?_ _ | refine blk_drew ?_ | refine blk_alloc ?_ _)); exact BK363.out⟩, ⟨by repeat (first | (with_reducible first | exact HB.out | apply below_alloc | apply pw_below_drewN | apply below_drew1 | refine below_set ?_ GE362.out | refine below_set ?_ GE363.out) | exact HB.out)⟩⟩
    ·rw [if_neg c6] at H
     exact absurd H (by simp)
   ·rw [if_neg c5] at H
    have c5b0 : decide (x5_1 < (l1.length : Int)) = false := decide_eq_false c5
    clear c5
    obtain rfl := Option.some.inj H
    go_wp2_with (first | ((with_reducible refine gate_dst (N := 18) rfl ?_); (try (refine gate_guard (by rfl) ?_; dsimp only)); refine Ar.load_event rfl (D := 18) rfl (T := 33) rfl Tryd.underlying33 (by kernel_rfl) (g := gb362) rfl (qb BK362) ?_) | ((with_reducible refine gate_store (t := 33) (p := 4) rfl ?_); refine Ar.store_all_event rfl rfl rfl Tryd.underlying33 (by kernel_rfl) (g := gb363) rfl (z := x363000_1) qg (qb BK363) ?_; intro w11 hbk_ hg; replace BK362 := Aside0.mk (qG BK362 hg (fun e_ => NB362_363.out (Option.some.inj e_))); replace BK363 := Aside0.mk (hbk_); replace HB := Aside0.mk (Below.grown (qs HB) hg ((below_size (qs HB))) (fun _ e_ => by cases e_; exact GE363.out)); clear hbk_ hg))
    refine bodyPost_ret (results_cell_row rfl _ _ gb363 33 (Ar.cells .u32 8 x363000_1) (0, 0) _ rfl (qb BK363) Tryd.underlying33 rfl qZ) rfl ?_
    exact ⟨by first | rfl | (simp [errW_none, errW_some] <;> rfl) | (simp [*, errW_none, errW_some] <;> rfl), by repeat (first | (with_reducible first | exact HB.out | apply below_alloc | apply pw_below_drewN | apply below_drew1 | refine below_set ?_ GE362.out | refine below_set ?_ GE363.out) | exact HB.out)⟩
def drawlotref04_Start.f  : Option (List Int) := some [1779033703, 3144134277, 1013904242, 2773480762, 1359893119, 2600822924, 528734635, 1541459225]
set_option maxHeartbeats 8000000 in
set_option maxRecDepth 100000 in
theorem drawlotref04_Start.calls  (r : List Int) (w : World) (h : drawlotref04_Start.f  = some r) :
    Calls Tryd.prog 30 #[] w fun e w' => e = .returned (.agg (Ar.cells .u32 8 r)) ∧ Below w.heap.size w w' := by
  have HB := Aside0.mk (Below.refl w.heap.size w)
  have H : (some [1779033703, 3144134277, 1013904242, 2773480762, 1359893119, 2600822924, 528734635, 1541459225]) = some r := h
  clear h
  obtain rfl := Option.some.inj H
  go_enter Tryd.func30, Tryd.ntmps30
  go_wp2_with (first | ((with_reducible refine gate_dst (N := 0) rfl ?_); (try (refine gate_guard (by rfl) ?_; dsimp only)); refine qE (N := 0) (cs := (Ar.cells .u32 8 (List.replicate 8 0))) (t := 33) ?_; intro gb366 hg w1 hbox hb; have BK366 := Aside0.mk (hbox); have GW366 := Aside0.mk ((qe HB hg : w.heap.size ≤ gb366)); have GE366 := Aside0.mk ((qe HB hg : w.heap.size ≤ gb366)); replace HB := Aside0.mk (below_step (qs HB) hb); clear hb hbox hg) | ((with_reducible refine gate_dst (N := 1) rfl ?_); (try (refine gate_guard (by rfl) ?_; dsimp only)); refine Ar.build_event rfl (D := 1) rfl (T := 33) rfl (k := .u32) (n := 8) (l := [1779033703, 3144134277, 1013904242, 2773480762, 1359893119, 2600822924, 528734635, 1541459225]) Tryd.underlying33 (by kernel_rfl) (by kernel_rfl) [(0, 1779033703), (1, 3144134277), (2, 1013904242), (3, 2773480762), (4, 1359893119), (5, 2600822924), (6, 528734635), (7, 1541459225)] (by rfl) (by rfl) (by rfl) ?_) | ((with_reducible refine gate_store (t := 33) (p := 0) rfl ?_); refine Ar.store_all_event rfl rfl rfl Tryd.underlying33 (by kernel_rfl) (g := gb366) rfl (z := [1779033703, 3144134277, 1013904242, 2773480762, 1359893119, 2600822924, 528734635, 1541459225]) qg (qb BK366) ?_; intro w2 hbk_ hg; replace BK366 := Aside0.mk (hbk_); replace HB := Aside0.mk (Below.grown (qs HB) hg ((below_size (qs HB))) (fun _ e_ => by cases e_; exact GE366.out)); clear hbk_ hg))
  refine bodyPost_ret (results_cell_row rfl _ _ gb366 33 (Ar.cells .u32 8 [1779033703, 3144134277, 1013904242, 2773480762, 1359893119, 2600822924, 528734635, 1541459225]) (0, 0) _ rfl (qb BK366) Tryd.underlying33 rfl qZ) rfl ?_
  exact ⟨by first | rfl | (simp [errW_none, errW_some] <;> rfl) | (simp [*, errW_none, errW_some] <;> rfl), by repeat (first | (with_reducible first | exact HB.out | apply below_alloc | apply pw_below_drewN | apply below_drew1 | refine below_set ?_ GE366.out) | exact HB.out)⟩
end Go.Proofs.YtkcdcbiobkcpmaaDoor.PA
end
