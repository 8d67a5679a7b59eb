/- Written by xprint.py, this session's own driver, for the seat Ytpkdpdbcgbeakaa: contracts of Go functions, each saying that a call answers what a plain Lean function of the same name says, and, in a text named Law, the row of a law: its Go function answers true for every input. No conditions. -/
import Derived.Test.YtpkdpdbcgbeakaaPRx0
import Derived.Test.YtpkdpdbcgbeakaaPRx4
import Derived.Test.YtpkdpdbcgbeakaaPRx5
namespace Go.Proofs.Ytpkdpdbcgbeakaa.PR
open Go.RowKit Go.Proofs.YtpkdpdbcgbeakaaW.PrintWords Go.Proofs.YtpkdpdbcgbeakaaW.PrintLast Go.Proofs.YtpkdpdbcgbeakaaW.PrintMore
attribute [local go_sem] max2_int min2_int max_two min_two max_three min_three max_four min_four   -- for this text's walks alone
set_option linter.unusedVariables false
set_option linter.unusedSimpArgs false

/-! ### drawlotlaw04_CompRoots: function 16 -/
mutual
def drawlotlaw04_CompRoots.l0 : Nat → Int → Int → Int → Int → Option (Bool)
 | 0, _, _, _, _ => none
 | k + 1, x3, x4, x5, x6 => if (IntKind.u64.wrap ((IntKind.u64.wrap ((IntKind.u64.wrap (x5 + 1)) * (IntKind.u64.wrap (x5 + 1)))) * (IntKind.u64.wrap (x5 + 1)))) ≤ x4 then (drawlotlaw04_CompRoots.l0 k x3 x4 (IntKind.u64.wrap (x5 + 1)) x6) else (drawlotlaw04_CompRoots.l1 k x3 x4 x5 x6)
def drawlotlaw04_CompRoots.l1 : Nat → Int → Int → Int → Int → Option (Bool)
 | 0, _, _, _, _ => none
 | k + 1, x3, x4, x5, x6 => if (IntKind.u64.wrap ((IntKind.u64.wrap (x6 + 1)) * (IntKind.u64.wrap (x6 + 1)))) ≤ x4 then (drawlotlaw04_CompRoots.l1 k x3 x4 x5 (IntKind.u64.wrap (x6 + 1))) else ((comp_Constant.f x3).bind fun t165 => (if (Ar.get 4 [IntKind.u64.wrap (t165), x5, 0, 0] 0) = 4294967295 then ((drawlotlaw04_mul.f k [IntKind.u64.wrap (t165), x5, 0, 0] [IntKind.u64.wrap (t165), x5, 0, 0]).bind fun t169 => ((drawlotlaw04_mul.f k t169 [IntKind.u64.wrap (t165), x5, 0, 0]).bind fun t170 => ((drawlotlaw04_less.f k [0, 0, 0, x4] t170).bind fun t171 => (if t171 = true then (none) else ((drawlotlaw04_mul.f k [0, IntKind.u64.wrap (x5 + 1), 0, 0] [0, IntKind.u64.wrap (x5 + 1), 0, 0]).bind fun t172 => ((drawlotlaw04_mul.f k t172 [0, IntKind.u64.wrap (x5 + 1), 0, 0]).bind fun t173 => ((drawlotlaw04_less.f k [0, 0, 0, x4] t173).bind fun t174 => (if t174 = true then (if x3 > 7 then (some true) else ((comp_Start.f).bind fun t175 => (if 0 ≤ x3 then (if x3 < 8 then ((drawlotlaw04_mul.f k [IntKind.u64.wrap (Ar.get 8 t175 x3), x6, 0, 0] [IntKind.u64.wrap (Ar.get 8 t175 x3), x6, 0, 0]).bind fun t177 => ((drawlotlaw04_less.f k [0, 0, x4, 0] t177).bind fun t178 => (if t178 = true then (none) else ((drawlotlaw04_mul.f k [IntKind.u64.wrap ((Ar.get 4 [IntKind.u64.wrap (Ar.get 8 t175 x3), x6, 0, 0] 0) + 1), x6, 0, 0] [IntKind.u64.wrap ((Ar.get 4 [IntKind.u64.wrap (Ar.get 8 t175 x3), x6, 0, 0] 0) + 1), x6, 0, 0]).bind fun t179 => ((drawlotlaw04_less.f k [0, 0, x4, 0] t179).bind fun t180 => (some t180)))))) else (none)) else (none)))) else (none))))))))) else ((drawlotlaw04_mul.f k [IntKind.u64.wrap (t165), x5, 0, 0] [IntKind.u64.wrap (t165), x5, 0, 0]).bind fun t182 => ((drawlotlaw04_mul.f k t182 [IntKind.u64.wrap (t165), x5, 0, 0]).bind fun t183 => ((drawlotlaw04_less.f k [0, 0, 0, x4] t183).bind fun t184 => (if t184 = true then (none) else ((drawlotlaw04_mul.f k [IntKind.u64.wrap ((Ar.get 4 [IntKind.u64.wrap (t165), x5, 0, 0] 0) + 1), x5, 0, 0] [IntKind.u64.wrap ((Ar.get 4 [IntKind.u64.wrap (t165), x5, 0, 0] 0) + 1), x5, 0, 0]).bind fun t185 => ((drawlotlaw04_mul.f k t185 [IntKind.u64.wrap ((Ar.get 4 [IntKind.u64.wrap (t165), x5, 0, 0] 0) + 1), x5, 0, 0]).bind fun t186 => ((drawlotlaw04_less.f k [0, 0, 0, x4] t186).bind fun t187 => (if t187 = true then (if x3 > 7 then (some true) else ((comp_Start.f).bind fun t188 => (if 0 ≤ x3 then (if x3 < 8 then ((drawlotlaw04_mul.f k [IntKind.u64.wrap (Ar.get 8 t188 x3), x6, 0, 0] [IntKind.u64.wrap (Ar.get 8 t188 x3), x6, 0, 0]).bind fun t190 => ((drawlotlaw04_less.f k [0, 0, x4, 0] t190).bind fun t191 => (if t191 = true then (none) else ((drawlotlaw04_mul.f k [IntKind.u64.wrap ((Ar.get 4 [IntKind.u64.wrap (Ar.get 8 t188 x3), x6, 0, 0] 0) + 1), x6, 0, 0] [IntKind.u64.wrap ((Ar.get 4 [IntKind.u64.wrap (Ar.get 8 t188 x3), x6, 0, 0] 0) + 1), x6, 0, 0]).bind fun t192 => ((drawlotlaw04_less.f k [0, 0, x4, 0] t192).bind fun t193 => (some t193)))))) else (none)) else (none)))) else (none)))))))))))
end
def drawlotlaw04_CompRoots.f (k : Nat) (a0 : Int) : Option (Bool) := (drawlotlaw04_alive.f k).bind fun t163 => (if t163 = true then ((drawlotlaw04_prime.f k (wrap64 (Int.tmod a0 64))).bind fun t164 => (drawlotlaw04_CompRoots.l0 k (wrap64 (Int.tmod a0 64)) t164 1 1)) else (none))
theorem drawlotlaw04_CompRoots.mono_l : ∀ k, (∀ y0 y1 y2 y3, LeO (drawlotlaw04_CompRoots.l0 k y0 y1 y2 y3) (drawlotlaw04_CompRoots.l0 (k + 1) y0 y1 y2 y3)) ∧ (∀ y0 y1 y2 y3, LeO (drawlotlaw04_CompRoots.l1 k y0 y1 y2 y3) (drawlotlaw04_CompRoots.l1 (k + 1) y0 y1 y2 y3))
 | 0 => ⟨fun _ _ _ _ r h => by simp [drawlotlaw04_CompRoots.l0] at h, fun _ _ _ _ r h => by simp [drawlotlaw04_CompRoots.l1] at h⟩
 | k + 1 => by
  obtain ⟨ih0, ih1⟩ := drawlotlaw04_CompRoots.mono_l k
  refine ⟨?_, ?_⟩
  ·intro y0 y1 y2 y3
   unfold drawlotlaw04_CompRoots.l0
   repeat' first
   | (with_reducible exact ih0 _ _ _ _)
   | (with_reducible exact ih1 _ _ _ _)
   | (with_reducible exact drawlotlaw04_alive.mono _)
   | (with_reducible exact drawlotlaw04_less.mono _ _ _)
   | (with_reducible exact drawlotlaw04_mul.mono _ _ _)
   | (with_reducible exact drawlotlaw04_prime.mono _ _)
   | (with_reducible exact LeO.refl _)
   | (with_reducible exact LeO.none _)
   | (with_reducible refine LeO.ite ?_ ?_)
   | (with_reducible refine LeO.bind ?_ (fun _ => ?_))
   | exact ih0 _ _ _ _
   | exact ih1 _ _ _ _
   | exact drawlotlaw04_alive.mono _
   | exact drawlotlaw04_less.mono _ _ _
   | exact drawlotlaw04_mul.mono _ _ _
   | exact drawlotlaw04_prime.mono _ _
   | exact LeO.none _
   | refine LeO.ite ?_ ?_
   | refine LeO.bind ?_ (fun _ => ?_)
  ·intro y0 y1 y2 y3
   unfold drawlotlaw04_CompRoots.l1
   repeat' first
   | (with_reducible exact ih0 _ _ _ _)
   | (with_reducible exact ih1 _ _ _ _)
   | (with_reducible exact drawlotlaw04_alive.mono _)
   | (with_reducible exact drawlotlaw04_less.mono _ _ _)
   | (with_reducible exact drawlotlaw04_mul.mono _ _ _)
   | (with_reducible exact drawlotlaw04_prime.mono _ _)
   | (with_reducible exact LeO.refl _)
   | (with_reducible exact LeO.none _)
   | (with_reducible refine LeO.ite ?_ ?_)
   | (with_reducible refine LeO.bind ?_ (fun _ => ?_))
   | exact ih0 _ _ _ _
   | exact ih1 _ _ _ _
   | exact drawlotlaw04_alive.mono _
   | exact drawlotlaw04_less.mono _ _ _
   | exact drawlotlaw04_mul.mono _ _ _
   | exact drawlotlaw04_prime.mono _ _
   | exact LeO.none _
   | refine LeO.ite ?_ ?_
   | refine LeO.bind ?_ (fun _ => ?_)
theorem drawlotlaw04_CompRoots.mono : ∀ a0 k, LeO (drawlotlaw04_CompRoots.f k a0) (drawlotlaw04_CompRoots.f (k + 1) a0) := by
 intro a0 k
 obtain ⟨ih0, ih1⟩ := drawlotlaw04_CompRoots.mono_l k
 unfold drawlotlaw04_CompRoots.f
 repeat' first
   | (with_reducible exact ih0 _ _ _ _)
   | (with_reducible exact ih1 _ _ _ _)
   | (with_reducible exact drawlotlaw04_alive.mono _)
   | (with_reducible exact drawlotlaw04_less.mono _ _ _)
   | (with_reducible exact drawlotlaw04_mul.mono _ _ _)
   | (with_reducible exact drawlotlaw04_prime.mono _ _)
   | (with_reducible exact LeO.refl _)
   | (with_reducible exact LeO.none _)
   | (with_reducible refine LeO.ite ?_ ?_)
   | (with_reducible refine LeO.bind ?_ (fun _ => ?_))
   | exact ih0 _ _ _ _
   | exact ih1 _ _ _ _
   | exact drawlotlaw04_alive.mono _
   | exact drawlotlaw04_less.mono _ _ _
   | exact drawlotlaw04_mul.mono _ _ _
   | exact drawlotlaw04_prime.mono _ _
   | exact LeO.none _
   | refine LeO.ite ?_ ?_
   | refine LeO.bind ?_ (fun _ => ?_)
def drawlotlaw04_CompRoots.T15 : Bool × List (List Nat × List Nat) := (true, [([], []), ([], []), ([], []), ([1, 2], [1, 2]), ([], []), ([3, 4, 3], [3, 4]), ([0, 5, 5], [0, 5]), ([6, 6], [6]), ([7], [7]), ([7], [7]), ([7], [7]), ([9, 10, 7, 7], [7, 9, 10]), ([7], [7]), ([11, 12, 11, 7], [7, 11, 12]), ([8, 13, 13, 7], [7, 8, 13]), ([14, 7], [7, 14]), ([7, 15], [7, 15])])
def drawlotlaw04_CompRoots.B15 : List Nat := [0, 0, 0, 6, 0, 30, 63, 127, 255, 255, 255, 1791, 255, 7935, 16383, 32767, 65535]
theorem drawlotlaw04_CompRoots.tab15 : rtab .any (opsOf Try.f16 15) = drawlotlaw04_CompRoots.T15 := by kernel_rfl
theorem drawlotlaw04_CompRoots.bits15 : waitsOk drawlotlaw04_CompRoots.T15.2 drawlotlaw04_CompRoots.B15 = true := by kernel_rfl
def drawlotlaw04_CompRoots.T22 : Bool × List (List Nat × List Nat) := (true, [([], []), ([], []), ([], []), ([1, 2], [1, 2]), ([0, 3, 3], [0, 3]), ([4], [4]), ([5, 4], [5]), ([6], [6]), ([6], [6]), ([6], [6]), ([8, 9, 6, 6], [6, 8, 9]), ([7, 10, 10, 6], [6, 7, 10]), ([6, 11], [6, 11]), ([12, 11, 0, 1, 2, 3, 4, 5, 6, 7, 8, 9, 10, 11, 12], [12])])
def drawlotlaw04_CompRoots.B22 : List Nat := [0, 0, 0, 6, 15, 31, 63, 127, 127, 127, 895, 2047, 4095, 8191]
theorem drawlotlaw04_CompRoots.tab22 : rtab .any (opsOf Try.f16 22) = drawlotlaw04_CompRoots.T22 := by kernel_rfl
theorem drawlotlaw04_CompRoots.bits22 : waitsOk drawlotlaw04_CompRoots.T22.2 drawlotlaw04_CompRoots.B22 = true := by kernel_rfl
set_option maxHeartbeats 8000000 in
set_option maxRecDepth 100000 in
theorem drawlotlaw04_CompRoots.calls (k : Nat) (a0 : Int) (r : Bool) (w : World) (h : drawlotlaw04_CompRoots.f k a0 = some r) :
  Calls Try.prog 16 #[.int .u8 a0] w fun e w' => e = .returned (.bool r) ∧ Below w.heap.size w w' := by
 have HB := Aside0.mk (Below.refl w.heap.size w)
 have H : ((drawlotlaw04_alive.f k).bind fun t163 => (if t163 = true then ((drawlotlaw04_prime.f k (wrap64 (Int.tmod a0 64))).bind fun t164 => (drawlotlaw04_CompRoots.l0 k (wrap64 (Int.tmod a0 64)) t164 1 1)) else (none))) = some r := h
 clear h
 replace H := Option.bind_eq_some_iff.mp H
 obtain ⟨t163, A20, H⟩ := H
 replace H : (if t163 = true then ((drawlotlaw04_prime.f k (wrap64 (Int.tmod a0 64))).bind fun t164 => (drawlotlaw04_CompRoots.l0 k (wrap64 (Int.tmod a0 64)) t164 1 1)) else (none)) = some r := H
 have A2 := Aside0.mk A20
 clear A20
 by_cases c3 : t163 = true
 ·subst c3
  have H1 : ((drawlotlaw04_prime.f k (wrap64 (Int.tmod a0 64))).bind fun t164 => (drawlotlaw04_CompRoots.l0 k (wrap64 (Int.tmod a0 64)) t164 1 1)) = some r := by rw [if_pos rfl] at H; exact H
  clear H
  have H := H1
  clear H1
  replace H := Option.bind_eq_some_iff.mp H
  obtain ⟨t164, A40, H⟩ := H
  replace H : (drawlotlaw04_CompRoots.l0 k (wrap64 (Int.tmod a0 64)) t164 1 1) = some r := H
  have A4 := Aside0.mk A40
  clear A40
  have H' := Aside0.mk H
  clear H
  go_enter Try.func16, Try.ntmps16
  try simp only [List.append]
  go_wp2_with (first | ((with_reducible refine gate_callee (f := 51) rfl ?_); refine goesL_ (some 11) rfl rfl Try.func51 (by kernel_rfl) rfl #[] rfl (by (try simp only [List.map_toArray, List.map_cons, List.map_nil]); first | done | rfl | (simp only [List.length_drop, List.length_take]; rfl)) ?_; (with_reducible refine (drawlotlaw04_alive.calls k  true _ A2.out).mono ?_); rintro e w5 ⟨rfl, hb⟩; refine ⟨_, rfl, ?_⟩; have n0_ := Aside0.mk (below_step (by repeat (first | (with_reducible first | exact HB.out | apply below_alloc | apply pw_below_drewN | apply below_drew1) | exact HB.out)) hb); clear HB; have HB := n0_; clear n0_; (try clear hb); (try clear hb2); (try clear hk); (try clear hi)) | ((with_reducible refine gate_callee (f := 58) rfl ?_); refine goesL_ (some 17) rfl rfl Try.func58 (by kernel_rfl) rfl #[.int .i64 (wrap64 (Int.tmod a0 64))] rfl (by (try simp only [List.map_toArray, List.map_cons, List.map_nil]); first | done | rfl | (simp only [List.length_drop, List.length_take]; rfl)) ?_; (with_reducible refine (drawlotlaw04_prime.calls k (wrap64 (Int.tmod a0 64)) t164 _ A4.out).mono ?_); rintro e w' ⟨rfl, ⟨nd, rfl⟩⟩; refine ⟨_, rfl, ?_⟩))
  go_loopg [5] k (fun kq v5 w' => ∃ (x5_1 : Int), v5 = .int .u64 x5_1 ∧ Aside0 (drawlotlaw04_CompRoots.l0 kq (wrap64 (Int.tmod a0 64)) t164 x5_1 1 = some r) ∧ Aside0 (kq ≤ k) ∧ Aside0 (Below w.heap.size w w'))
  case atStart => exact ⟨(1), (by first | rfl | (simp; done) | (simp [*]; done)), H', ⟨Nat.le_refl _⟩, ⟨by repeat (first | (with_reducible first | exact HB.out | apply below_alloc | apply pw_below_drewN | apply below_drew1) | exact HB.out)⟩⟩
  case round =>
   clear H'
   try clear c1
   try clear p2
   try clear c3
   try clear c5
   obtain ⟨x5_1, rfl, HA, HK1, HB⟩ := hrel
   cases gk with
   | zero => exact absurd HA.out (by simp [drawlotlaw04_CompRoots.l0])
   | succ k1 =>
    have H := HA.out
    clear HA
    simp only [drawlotlaw04_CompRoots.l0] at H
    by_cases c6 : (IntKind.u64.wrap ((IntKind.u64.wrap ((IntKind.u64.wrap (x5_1 + 1)) * (IntKind.u64.wrap (x5_1 + 1)))) * (IntKind.u64.wrap (x5_1 + 1)))) ≤ t164
    ·rw [if_pos c6] at H
     have c6b0 : decide ((IntKind.u64.wrap ((IntKind.u64.wrap ((IntKind.u64.wrap (x5_1 + 1)) * (IntKind.u64.wrap (x5_1 + 1)))) * (IntKind.u64.wrap (x5_1 + 1)))) ≤ t164) = true := decide_eq_true c6
     clear c6
     have H' := Aside0.mk H
     clear H
     go_wp2
     go_roundg k1
     case measure => have := HK1.out; omega
     case rel => exact ⟨(IntKind.u64.wrap (x5_1 + 1)), (by first | rfl | (simp; done) | (simp [*]; done)), H', ⟨by have := HK1.out; omega⟩, ⟨by repeat (first | (with_reducible first | exact HB.out | apply below_alloc | apply pw_below_drewN | apply below_drew1) | exact HB.out)⟩⟩
    ·rw [if_neg c6] at H
     have c6b0 : decide ((IntKind.u64.wrap ((IntKind.u64.wrap ((IntKind.u64.wrap (x5_1 + 1)) * (IntKind.u64.wrap (x5_1 + 1)))) * (IntKind.u64.wrap (x5_1 + 1)))) ≤ t164) = false := decide_eq_false c6
     clear c6
     have H' := Aside0.mk H
     clear H
     go_wp2
     go_loopg [6] k1 (fun kq v6 w' => ∃ (x6_2 : Int), v6 = .int .u64 x6_2 ∧ Aside0 (drawlotlaw04_CompRoots.l1 kq (wrap64 (Int.tmod a0 64)) t164 x5_1 x6_2 = some r) ∧ Aside0 (kq ≤ k1) ∧ Aside0 (Below w.heap.size w w'))
     case atStart => exact ⟨(1), (by first | rfl | (simp; done) | (simp [*]; done)), H', ⟨Nat.le_refl _⟩, ⟨by repeat (first | (with_reducible first | exact HB.out | apply below_alloc | apply pw_below_drewN | apply below_drew1) | exact HB.out)⟩⟩
     case round =>
      clear H'
      try clear c1
      try clear p2
      try clear c3
      try clear c5
      try clear c6
      try clear c6b0
      try clear p6
      try clear p2
      obtain ⟨x6_2, rfl, HA, HK2, HB⟩ := hrel
      cases gk with
      | zero => exact absurd HA.out (by simp [drawlotlaw04_CompRoots.l1])
      | succ k2 =>
       have H := HA.out
       clear HA
       simp only [drawlotlaw04_CompRoots.l1] at H
       by_cases c7 : (IntKind.u64.wrap ((IntKind.u64.wrap (x6_2 + 1)) * (IntKind.u64.wrap (x6_2 + 1)))) ≤ t164
       ·rw [if_pos c7] at H
        have c7b0 : decide ((IntKind.u64.wrap ((IntKind.u64.wrap (x6_2 + 1)) * (IntKind.u64.wrap (x6_2 + 1)))) ≤ t164) = true := decide_eq_true c7
        clear c7
        have H' := Aside0.mk H
        clear H
        go_wp2
        go_roundg k2
        case measure => have := HK1.out; have := HK2.out; omega
        case rel => exact ⟨(IntKind.u64.wrap (x6_2 + 1)), (by first | rfl | (simp; done) | (simp [*]; done)), H', ⟨by have := HK1.out; have := HK2.out; omega⟩, ⟨by repeat (first | (with_reducible first | exact HB.out | apply below_alloc | apply pw_below_drewN | apply below_drew1) | exact HB.out)⟩⟩
       ·rw [if_neg c7] at H
        have c7b0 : decide ((IntKind.u64.wrap ((IntKind.u64.wrap (x6_2 + 1)) * (IntKind.u64.wrap (x6_2 + 1)))) ≤ t164) = false := decide_eq_false c7
        clear c7
        replace H := Option.bind_eq_some_iff.mp H
        obtain ⟨t165, A80, H⟩ := H
        replace H : (if (Ar.get 4 [IntKind.u64.wrap (t165), x5_1, 0, 0] 0) = 4294967295 then ((drawlotlaw04_mul.f k2 [IntKind.u64.wrap (t165), x5_1, 0, 0] [IntKind.u64.wrap (t165), x5_1, 0, 0]).bind fun t169 => ((drawlotlaw04_mul.f k2 t169 [IntKind.u64.wrap (t165), x5_1, 0, 0]).bind fun t170 => ((drawlotlaw04_less.f k2 [0, 0, 0, t164] t170).bind fun t171 => (if t171 = true then (none) else ((drawlotlaw04_mul.f k2 [0, IntKind.u64.wrap (x5_1 + 1), 0, 0] [0, IntKind.u64.wrap (x5_1 + 1), 0, 0]).bind fun t172 => ((drawlotlaw04_mul.f k2 t172 [0, IntKind.u64.wrap (x5_1 + 1), 0, 0]).bind fun t173 => ((drawlotlaw04_less.f k2 [0, 0, 0, t164] t173).bind fun t174 => (if t174 = true then (if (wrap64 (Int.tmod a0 64)) > 7 then (some true) else ((comp_Start.f).bind fun t175 => (if 0 ≤ (wrap64 (Int.tmod a0 64)) then (if (wrap64 (Int.tmod a0 64)) < 8 then ((drawlotlaw04_mul.f k2 [IntKind.u64.wrap (Ar.get 8 t175 (wrap64 (Int.tmod a0 64))), x6_2, 0, 0] [IntKind.u64.wrap (Ar.get 8 t175 (wrap64 (Int.tmod a0 64))), x6_2, 0, 0]).bind fun t177 => ((drawlotlaw04_less.f k2 [0, 0, t164, 0] t177).bind fun t178 => (if t178 = true then (none) else ((drawlotlaw04_mul.f k2 [IntKind.u64.wrap ((Ar.get 4 [IntKind.u64.wrap (Ar.get 8 t175 (wrap64 (Int.tmod a0 64))), x6_2, 0, 0] 0) + 1), x6_2, 0, 0] [IntKind.u64.wrap ((Ar.get 4 [IntKind.u64.wrap (Ar.get 8 t175 (wrap64 (Int.tmod a0 64))), x6_2, 0, 0] 0) + 1), x6_2, 0, 0]).bind fun t179 => ((drawlotlaw04_less.f k2 [0, 0, t164, 0] t179).bind fun t180 => (some t180)))))) else (none)) else (none)))) else (none))))))))) else ((drawlotlaw04_mul.f k2 [IntKind.u64.wrap (t165), x5_1, 0, 0] [IntKind.u64.wrap (t165), x5_1, 0, 0]).bind fun t182 => ((drawlotlaw04_mul.f k2 t182 [IntKind.u64.wrap (t165), x5_1, 0, 0]).bind fun t183 => ((drawlotlaw04_less.f k2 [0, 0, 0, t164] t183).bind fun t184 => (if t184 = true then (none) else ((drawlotlaw04_mul.f k2 [IntKind.u64.wrap ((Ar.get 4 [IntKind.u64.wrap (t165), x5_1, 0, 0] 0) + 1), x5_1, 0, 0] [IntKind.u64.wrap ((Ar.get 4 [IntKind.u64.wrap (t165), x5_1, 0, 0] 0) + 1), x5_1, 0, 0]).bind fun t185 => ((drawlotlaw04_mul.f k2 t185 [IntKind.u64.wrap ((Ar.get 4 [IntKind.u64.wrap (t165), x5_1, 0, 0] 0) + 1), x5_1, 0, 0]).bind fun t186 => ((drawlotlaw04_less.f k2 [0, 0, 0, t164] t186).bind fun t187 => (if t187 = true then (if (wrap64 (Int.tmod a0 64)) > 7 then (some true) else ((comp_Start.f).bind fun t188 => (if 0 ≤ (wrap64 (Int.tmod a0 64)) then (if (wrap64 (Int.tmod a0 64)) < 8 then ((drawlotlaw04_mul.f k2 [IntKind.u64.wrap (Ar.get 8 t188 (wrap64 (Int.tmod a0 64))), x6_2, 0, 0] [IntKind.u64.wrap (Ar.get 8 t188 (wrap64 (Int.tmod a0 64))), x6_2, 0, 0]).bind fun t190 => ((drawlotlaw04_less.f k2 [0, 0, t164, 0] t190).bind fun t191 => (if t191 = true then (none) else ((drawlotlaw04_mul.f k2 [IntKind.u64.wrap ((Ar.get 4 [IntKind.u64.wrap (Ar.get 8 t188 (wrap64 (Int.tmod a0 64))), x6_2, 0, 0] 0) + 1), x6_2, 0, 0] [IntKind.u64.wrap ((Ar.get 4 [IntKind.u64.wrap (Ar.get 8 t188 (wrap64 (Int.tmod a0 64))), x6_2, 0, 0] 0) + 1), x6_2, 0, 0]).bind fun t192 => ((drawlotlaw04_less.f k2 [0, 0, t164, 0] t192).bind fun t193 => (some t193)))))) else (none)) else (none)))) else (none)))))))))) = some r := H
        have A8 := Aside0.mk A80
        clear A80
        by_cases c9 : (Ar.get 4 [IntKind.u64.wrap (t165), x5_1, 0, 0] 0) = 4294967295
        ·rw [if_pos c9] at H
         have c9b0 : ((Ar.get 4 [IntKind.u64.wrap (t165), x5_1, 0, 0] 0) == 4294967295) = true := beq_iff_eq.mpr c9
         have c9b1 : ((Ar.get 4 [IntKind.u64.wrap (t165), x5_1, 0, 0] 0) != 4294967295) = false := bne_eq_false_iff_eq.mpr c9
         clear c9
         replace H := Option.bind_eq_some_iff.mp H
         obtain ⟨t169, A100, H⟩ := H
         replace H : ((drawlotlaw04_mul.f k2 t169 [IntKind.u64.wrap (t165), x5_1, 0, 0]).bind fun t170 => ((drawlotlaw04_less.f k2 [0, 0, 0, t164] t170).bind fun t171 => (if t171 = true then (none) else ((drawlotlaw04_mul.f k2 [0, IntKind.u64.wrap (x5_1 + 1), 0, 0] [0, IntKind.u64.wrap (x5_1 + 1), 0, 0]).bind fun t172 => ((drawlotlaw04_mul.f k2 t172 [0, IntKind.u64.wrap (x5_1 + 1), 0, 0]).bind fun t173 => ((drawlotlaw04_less.f k2 [0, 0, 0, t164] t173).bind fun t174 => (if t174 = true then (if (wrap64 (Int.tmod a0 64)) > 7 then (some true) else ((comp_Start.f).bind fun t175 => (if 0 ≤ (wrap64 (Int.tmod a0 64)) then (if (wrap64 (Int.tmod a0 64)) < 8 then ((drawlotlaw04_mul.f k2 [IntKind.u64.wrap (Ar.get 8 t175 (wrap64 (Int.tmod a0 64))), x6_2, 0, 0] [IntKind.u64.wrap (Ar.get 8 t175 (wrap64 (Int.tmod a0 64))), x6_2, 0, 0]).bind fun t177 => ((drawlotlaw04_less.f k2 [0, 0, t164, 0] t177).bind fun t178 => (if t178 = true then (none) else ((drawlotlaw04_mul.f k2 [IntKind.u64.wrap ((Ar.get 4 [IntKind.u64.wrap (Ar.get 8 t175 (wrap64 (Int.tmod a0 64))), x6_2, 0, 0] 0) + 1), x6_2, 0, 0] [IntKind.u64.wrap ((Ar.get 4 [IntKind.u64.wrap (Ar.get 8 t175 (wrap64 (Int.tmod a0 64))), x6_2, 0, 0] 0) + 1), x6_2, 0, 0]).bind fun t179 => ((drawlotlaw04_less.f k2 [0, 0, t164, 0] t179).bind fun t180 => (some t180)))))) else (none)) else (none)))) else (none)))))))) = some r := H
         have A10 := Aside0.mk A100
         clear A100
         replace H := Option.bind_eq_some_iff.mp H
         obtain ⟨t170, A110, H⟩ := H
         replace H : ((drawlotlaw04_less.f k2 [0, 0, 0, t164] t170).bind fun t171 => (if t171 = true then (none) else ((drawlotlaw04_mul.f k2 [0, IntKind.u64.wrap (x5_1 + 1), 0, 0] [0, IntKind.u64.wrap (x5_1 + 1), 0, 0]).bind fun t172 => ((drawlotlaw04_mul.f k2 t172 [0, IntKind.u64.wrap (x5_1 + 1), 0, 0]).bind fun t173 => ((drawlotlaw04_less.f k2 [0, 0, 0, t164] t173).bind fun t174 => (if t174 = true then (if (wrap64 (Int.tmod a0 64)) > 7 then (some true) else ((comp_Start.f).bind fun t175 => (if 0 ≤ (wrap64 (Int.tmod a0 64)) then (if (wrap64 (Int.tmod a0 64)) < 8 then ((drawlotlaw04_mul.f k2 [IntKind.u64.wrap (Ar.get 8 t175 (wrap64 (Int.tmod a0 64))), x6_2, 0, 0] [IntKind.u64.wrap (Ar.get 8 t175 (wrap64 (Int.tmod a0 64))), x6_2, 0, 0]).bind fun t177 => ((drawlotlaw04_less.f k2 [0, 0, t164, 0] t177).bind fun t178 => (if t178 = true then (none) else ((drawlotlaw04_mul.f k2 [IntKind.u64.wrap ((Ar.get 4 [IntKind.u64.wrap (Ar.get 8 t175 (wrap64 (Int.tmod a0 64))), x6_2, 0, 0] 0) + 1), x6_2, 0, 0] [IntKind.u64.wrap ((Ar.get 4 [IntKind.u64.wrap (Ar.get 8 t175 (wrap64 (Int.tmod a0 64))), x6_2, 0, 0] 0) + 1), x6_2, 0, 0]).bind fun t179 => ((drawlotlaw04_less.f k2 [0, 0, t164, 0] t179).bind fun t180 => (some t180)))))) else (none)) else (none)))) else (none))))))) = some r := H
         have A11 := Aside0.mk A110
         clear A110
         replace H := Option.bind_eq_some_iff.mp H
         obtain ⟨t171, A120, H⟩ := H
         replace H : (if t171 = true then (none) else ((drawlotlaw04_mul.f k2 [0, IntKind.u64.wrap (x5_1 + 1), 0, 0] [0, IntKind.u64.wrap (x5_1 + 1), 0, 0]).bind fun t172 => ((drawlotlaw04_mul.f k2 t172 [0, IntKind.u64.wrap (x5_1 + 1), 0, 0]).bind fun t173 => ((drawlotlaw04_less.f k2 [0, 0, 0, t164] t173).bind fun t174 => (if t174 = true then (if (wrap64 (Int.tmod a0 64)) > 7 then (some true) else ((comp_Start.f).bind fun t175 => (if 0 ≤ (wrap64 (Int.tmod a0 64)) then (if (wrap64 (Int.tmod a0 64)) < 8 then ((drawlotlaw04_mul.f k2 [IntKind.u64.wrap (Ar.get 8 t175 (wrap64 (Int.tmod a0 64))), x6_2, 0, 0] [IntKind.u64.wrap (Ar.get 8 t175 (wrap64 (Int.tmod a0 64))), x6_2, 0, 0]).bind fun t177 => ((drawlotlaw04_less.f k2 [0, 0, t164, 0] t177).bind fun t178 => (if t178 = true then (none) else ((drawlotlaw04_mul.f k2 [IntKind.u64.wrap ((Ar.get 4 [IntKind.u64.wrap (Ar.get 8 t175 (wrap64 (Int.tmod a0 64))), x6_2, 0, 0] 0) + 1), x6_2, 0, 0] [IntKind.u64.wrap ((Ar.get 4 [IntKind.u64.wrap (Ar.get 8 t175 (wrap64 (Int.tmod a0 64))), x6_2, 0, 0] 0) + 1), x6_2, 0, 0]).bind fun t179 => ((drawlotlaw04_less.f k2 [0, 0, t164, 0] t179).bind fun t180 => (some t180)))))) else (none)) else (none)))) else (none)))))) = some r := H
         have A12 := Aside0.mk A120
         clear A120
         by_cases c13 : t171 = true
         ·subst c13
          have H1 : (none) = some r := by rw [if_pos rfl] at H; exact H
          clear H
          have H := H1
          clear H1
          exact absurd H (by simp)
         ·replace c13 := Bool.eq_false_iff.mpr c13
          subst c13
          have H1 : ((drawlotlaw04_mul.f k2 [0, IntKind.u64.wrap (x5_1 + 1), 0, 0] [0, IntKind.u64.wrap (x5_1 + 1), 0, 0]).bind fun t172 => ((drawlotlaw04_mul.f k2 t172 [0, IntKind.u64.wrap (x5_1 + 1), 0, 0]).bind fun t173 => ((drawlotlaw04_less.f k2 [0, 0, 0, t164] t173).bind fun t174 => (if t174 = true then (if (wrap64 (Int.tmod a0 64)) > 7 then (some true) else ((comp_Start.f).bind fun t175 => (if 0 ≤ (wrap64 (Int.tmod a0 64)) then (if (wrap64 (Int.tmod a0 64)) < 8 then ((drawlotlaw04_mul.f k2 [IntKind.u64.wrap (Ar.get 8 t175 (wrap64 (Int.tmod a0 64))), x6_2, 0, 0] [IntKind.u64.wrap (Ar.get 8 t175 (wrap64 (Int.tmod a0 64))), x6_2, 0, 0]).bind fun t177 => ((drawlotlaw04_less.f k2 [0, 0, t164, 0] t177).bind fun t178 => (if t178 = true then (none) else ((drawlotlaw04_mul.f k2 [IntKind.u64.wrap ((Ar.get 4 [IntKind.u64.wrap (Ar.get 8 t175 (wrap64 (Int.tmod a0 64))), x6_2, 0, 0] 0) + 1), x6_2, 0, 0] [IntKind.u64.wrap ((Ar.get 4 [IntKind.u64.wrap (Ar.get 8 t175 (wrap64 (Int.tmod a0 64))), x6_2, 0, 0] 0) + 1), x6_2, 0, 0]).bind fun t179 => ((drawlotlaw04_less.f k2 [0, 0, t164, 0] t179).bind fun t180 => (some t180)))))) else (none)) else (none)))) else (none))))) = some r := by rw [if_neg (show ¬ (false = true) by decide)] at H; exact H
          clear H
          have H := H1
          clear H1
          replace H := Option.bind_eq_some_iff.mp H
          obtain ⟨t172, A140, H⟩ := H
          replace H : ((drawlotlaw04_mul.f k2 t172 [0, IntKind.u64.wrap (x5_1 + 1), 0, 0]).bind fun t173 => ((drawlotlaw04_less.f k2 [0, 0, 0, t164] t173).bind fun t174 => (if t174 = true then (if (wrap64 (Int.tmod a0 64)) > 7 then (some true) else ((comp_Start.f).bind fun t175 => (if 0 ≤ (wrap64 (Int.tmod a0 64)) then (if (wrap64 (Int.tmod a0 64)) < 8 then ((drawlotlaw04_mul.f k2 [IntKind.u64.wrap (Ar.get 8 t175 (wrap64 (Int.tmod a0 64))), x6_2, 0, 0] [IntKind.u64.wrap (Ar.get 8 t175 (wrap64 (Int.tmod a0 64))), x6_2, 0, 0]).bind fun t177 => ((drawlotlaw04_less.f k2 [0, 0, t164, 0] t177).bind fun t178 => (if t178 = true then (none) else ((drawlotlaw04_mul.f k2 [IntKind.u64.wrap ((Ar.get 4 [IntKind.u64.wrap (Ar.get 8 t175 (wrap64 (Int.tmod a0 64))), x6_2, 0, 0] 0) + 1), x6_2, 0, 0] [IntKind.u64.wrap ((Ar.get 4 [IntKind.u64.wrap (Ar.get 8 t175 (wrap64 (Int.tmod a0 64))), x6_2, 0, 0] 0) + 1), x6_2, 0, 0]).bind fun t179 => ((drawlotlaw04_less.f k2 [0, 0, t164, 0] t179).bind fun t180 => (some t180)))))) else (none)) else (none)))) else (none)))) = some r := H
          have A14 := Aside0.mk A140
          clear A140
          replace H := Option.bind_eq_some_iff.mp H
          obtain ⟨t173, A150, H⟩ := H
          replace H : ((drawlotlaw04_less.f k2 [0, 0, 0, t164] t173).bind fun t174 => (if t174 = true then (if (wrap64 (Int.tmod a0 64)) > 7 then (some true) else ((comp_Start.f).bind fun t175 => (if 0 ≤ (wrap64 (Int.tmod a0 64)) then (if (wrap64 (Int.tmod a0 64)) < 8 then ((drawlotlaw04_mul.f k2 [IntKind.u64.wrap (Ar.get 8 t175 (wrap64 (Int.tmod a0 64))), x6_2, 0, 0] [IntKind.u64.wrap (Ar.get 8 t175 (wrap64 (Int.tmod a0 64))), x6_2, 0, 0]).bind fun t177 => ((drawlotlaw04_less.f k2 [0, 0, t164, 0] t177).bind fun t178 => (if t178 = true then (none) else ((drawlotlaw04_mul.f k2 [IntKind.u64.wrap ((Ar.get 4 [IntKind.u64.wrap (Ar.get 8 t175 (wrap64 (Int.tmod a0 64))), x6_2, 0, 0] 0) + 1), x6_2, 0, 0] [IntKind.u64.wrap ((Ar.get 4 [IntKind.u64.wrap (Ar.get 8 t175 (wrap64 (Int.tmod a0 64))), x6_2, 0, 0] 0) + 1), x6_2, 0, 0]).bind fun t179 => ((drawlotlaw04_less.f k2 [0, 0, t164, 0] t179).bind fun t180 => (some t180)))))) else (none)) else (none)))) else (none))) = some r := H
          have A15 := Aside0.mk A150
          clear A150
          replace H := Option.bind_eq_some_iff.mp H
          obtain ⟨t174, A160, H⟩ := H
          replace H : (if t174 = true then (if (wrap64 (Int.tmod a0 64)) > 7 then (some true) else ((comp_Start.f).bind fun t175 => (if 0 ≤ (wrap64 (Int.tmod a0 64)) then (if (wrap64 (Int.tmod a0 64)) < 8 then ((drawlotlaw04_mul.f k2 [IntKind.u64.wrap (Ar.get 8 t175 (wrap64 (Int.tmod a0 64))), x6_2, 0, 0] [IntKind.u64.wrap (Ar.get 8 t175 (wrap64 (Int.tmod a0 64))), x6_2, 0, 0]).bind fun t177 => ((drawlotlaw04_less.f k2 [0, 0, t164, 0] t177).bind fun t178 => (if t178 = true then (none) else ((drawlotlaw04_mul.f k2 [IntKind.u64.wrap ((Ar.get 4 [IntKind.u64.wrap (Ar.get 8 t175 (wrap64 (Int.tmod a0 64))), x6_2, 0, 0] 0) + 1), x6_2, 0, 0] [IntKind.u64.wrap ((Ar.get 4 [IntKind.u64.wrap (Ar.get 8 t175 (wrap64 (Int.tmod a0 64))), x6_2, 0, 0] 0) + 1), x6_2, 0, 0]).bind fun t179 => ((drawlotlaw04_less.f k2 [0, 0, t164, 0] t179).bind fun t180 => (some t180)))))) else (none)) else (none)))) else (none)) = some r := H
          have A16 := Aside0.mk A160
          clear A160
          by_cases c17 : t174 = true
          ·subst c17
           have H1 : (if (wrap64 (Int.tmod a0 64)) > 7 then (some true) else ((comp_Start.f).bind fun t175 => (if 0 ≤ (wrap64 (Int.tmod a0 64)) then (if (wrap64 (Int.tmod a0 64)) < 8 then ((drawlotlaw04_mul.f k2 [IntKind.u64.wrap (Ar.get 8 t175 (wrap64 (Int.tmod a0 64))), x6_2, 0, 0] [IntKind.u64.wrap (Ar.get 8 t175 (wrap64 (Int.tmod a0 64))), x6_2, 0, 0]).bind fun t177 => ((drawlotlaw04_less.f k2 [0, 0, t164, 0] t177).bind fun t178 => (if t178 = true then (none) else ((drawlotlaw04_mul.f k2 [IntKind.u64.wrap ((Ar.get 4 [IntKind.u64.wrap (Ar.get 8 t175 (wrap64 (Int.tmod a0 64))), x6_2, 0, 0] 0) + 1), x6_2, 0, 0] [IntKind.u64.wrap ((Ar.get 4 [IntKind.u64.wrap (Ar.get 8 t175 (wrap64 (Int.tmod a0 64))), x6_2, 0, 0] 0) + 1), x6_2, 0, 0]).bind fun t179 => ((drawlotlaw04_less.f k2 [0, 0, t164, 0] t179).bind fun t180 => (some t180)))))) else (none)) else (none)))) = some r := by rw [if_pos rfl] at H; exact H
           clear H
           have H := H1
           clear H1
           by_cases c18 : (wrap64 (Int.tmod a0 64)) > 7
           ·rw [if_pos c18] at H
            have c18b0 : decide (7 < (wrap64 (Int.tmod a0 64))) = true := decide_eq_true c18
            clear c18
            obtain rfl := Option.some.inj H
            try go_wp2_with (first | ((with_reducible refine gate_callee (f := 54) rfl ?_); refine goesL_ (some 40) rfl rfl Try.func54 (by kernel_rfl) rfl #[.int .i64 (wrap64 (Int.tmod a0 64))] rfl (by (try simp only [List.map_toArray, List.map_cons, List.map_nil]); first | done | rfl | (simp only [List.length_drop, List.length_take]; rfl)) ?_; (with_reducible refine (comp_Constant.calls (wrap64 (Int.tmod a0 64)) t165 _ A8.out).mono ?_); rintro e w19 ⟨rfl, hb⟩; refine ⟨_, rfl, ?_⟩; have n0_ := Aside0.mk (below_step (by repeat (first | (with_reducible first | exact HB.out | apply below_alloc | apply pw_below_drewN | apply below_drew1) | exact HB.out)) hb); clear HB; have HB := n0_; clear n0_; (try clear hb); (try clear hb2); (try clear hk); (try clear hi)) | ((with_reducible refine gate_dst (N := 43) rfl ?_); (try (refine gate_guard (by rfl) ?_; dsimp only)); refine Ar.build_event rfl (D := 43) rfl (T := 67) rfl (k := .u64) (n := 4) (l := [IntKind.u64.wrap (t165), x5_1, 0, 0]) Try.underlying67 (by kernel_rfl) (by kernel_rfl) [(0, IntKind.u64.wrap (t165)), (1, x5_1)] (by rfl) (by rfl) (by rfl) ?_) | ((with_reducible refine gate_dst (N := 7) rfl ?_); (try (refine gate_guard (by rfl) ?_; dsimp only)); refine box_event ?hg (N := 7) ?hd (cs := (Ar.cells .u64 4 (List.replicate 4 0))) (t := 67) ?hr ?_; (case hd => rfl); (case hg => rfl); (case hr => first | exact Ar.box_run rfl rfl | exact Ar.alloc_run rfl (by kernel_rfl) | (go_simp; done) | (go_simp; rfl)); intro gb166 hg w20 hbox hb; have n0_ := Aside0.mk (below_step (by repeat (first | (with_reducible first | exact HB.out | apply below_alloc | apply pw_below_drewN | apply below_drew1) | exact HB.out)) hb); have n1_ := Aside0.mk (hbox); have n2_ := Aside0.mk ((by rw [hg]; exact (below_size (by repeat (first | (with_reducible first | exact HB.out | apply below_alloc | apply pw_below_drewN | apply below_drew1) | exact HB.out))) : w.heap.size ≤ gb166)); have n3_ := Aside0.mk ((by rw [hg]; exact (below_size (by repeat (first | (with_reducible first | exact HB.out | apply below_alloc | apply pw_below_drewN | apply below_drew1) | exact HB.out))) : w.heap.size ≤ gb166)); clear HB; have HB := n0_; have BK166 := n1_; have GW166 := n2_; have GE166 := n3_; clear n0_ n1_ n2_ n3_; clear hb hbox hg) | ((with_reducible refine gate_store (t := 67) (p := 7) rfl ?_); refine Ar.store_all_event rfl rfl rfl Try.underlying67 (by kernel_rfl) (g := gb166) rfl (z := [IntKind.u64.wrap (t165), x5_1, 0, 0]) (by first | rfl | (go_simp; done) | (go_simp; rfl)) (by (with_reducible repeat (first | refine blk_drewN ?_ _ | refine blk_drew ?_ | refine blk_alloc ?_ _)); exact BK166.out) ?_; intro w21 hbk_ hg; have n0_ := Aside0.mk (hbk_); have n1_ := Aside0.mk (Below.grown (by repeat (first | (with_reducible first | exact HB.out | apply below_alloc | apply pw_below_drewN | apply below_drew1 | refine below_set ?_ GE166.out) | exact HB.out)) hg ((below_size (by repeat (first | (with_reducible first | exact HB.out | apply below_alloc | apply pw_below_drewN | apply below_drew1 | refine below_set ?_ GE166.out) | exact HB.out)))) (fun _ e_ => by cases e_; exact GE166.out)); clear BK166; clear HB; have BK166 := n0_; have HB := n1_; clear n0_ n1_; clear hbk_ hg) | ((with_reducible refine gate_dst (N := 44) rfl ?_); (try (refine gate_guard (by rfl) ?_; dsimp only)); refine Ar.idx_event rfl (D := 44) rfl (T := 67) (n := 4) rfl Try.underlying67 (by kernel_rfl) (g := gb166) rfl (j := 0) (by first | rfl | (go_simp; done) | (go_simp; rfl)) (by decide) (by decide) ?_) | ((with_reducible refine gate_dst (N := 45) rfl ?_); (try (refine gate_guard (by rfl) ?_; dsimp only)); refine Ar.get_event rfl (D := 45) rfl (E := 26) rfl Try.underlying26 (g := gb166) (j := 0) rfl (by (with_reducible repeat (first | refine blk_drewN ?_ _ | refine blk_drew ?_ | refine blk_alloc ?_ _)); exact BK166.out) (by decide) (by decide) ?_) | ((with_reducible refine gate_dst (N := 48) rfl ?_); (try (refine gate_guard (by rfl) ?_; dsimp only)); refine Ar.build_event rfl (D := 48) rfl (T := 67) rfl (k := .u64) (n := 4) (l := [IntKind.u64.wrap ((Ar.get 4 [IntKind.u64.wrap (t165), x5_1, 0, 0] 0) + 1), x5_1, 0, 0]) Try.underlying67 (by kernel_rfl) (by kernel_rfl) [(0, IntKind.u64.wrap ((Ar.get 4 [IntKind.u64.wrap (t165), x5_1, 0, 0] 0) + 1)), (1, x5_1)] (by rfl) (by rfl) (by rfl) ?_) | ((with_reducible refine gate_dst (N := 8) rfl ?_); (try (refine gate_guard (by rfl) ?_; dsimp only)); refine box_event ?hg (N := 8) ?hd (cs := (Ar.cells .u64 4 (List.replicate 4 0))) (t := 67) ?hr ?_; (case hd => rfl); (case hg => rfl); (case hr => first | exact Ar.box_run rfl rfl | exact Ar.alloc_run rfl (by kernel_rfl) | (go_simp; done) | (go_simp; rfl)); intro gb167 hg w22 hbox hb; have n0_ := Aside0.mk (blk_below (g := gb166) (o := .cells (Ar.cells .u64 4 [IntKind.u64.wrap (t165), x5_1, 0, 0]) 67 (0, 0)) (by (with_reducible repeat (first | refine blk_drewN ?_ _ | refine blk_drew ?_ | refine blk_alloc ?_ _)); exact BK166.out) hb); have n1_ := Aside0.mk (below_step (by repeat (first | (with_reducible first | exact HB.out | apply below_alloc | apply pw_below_drewN | apply below_drew1 | refine below_set ?_ GE166.out) | exact HB.out)) hb); have n2_ := Aside0.mk (hbox); have n3_ := Aside0.mk ((by rw [hg]; exact (below_size (by repeat (first | (with_reducible first | exact HB.out | apply below_alloc | apply pw_below_drewN | apply below_drew1 | refine below_set ?_ GE166.out) | exact HB.out))) : w.heap.size ≤ gb167)); have n4_ := Aside0.mk ((by rw [hg]; exact (below_size (by repeat (first | (with_reducible first | exact HB.out | apply below_alloc | apply pw_below_drewN | apply below_drew1 | refine below_set ?_ GE166.out) | exact HB.out))) : w.heap.size ≤ gb167)); have n5_ := Aside0.mk ((by rw [hg]; exact Nat.ne_of_lt (blk_lt (g := gb166) (o := .cells (Ar.cells .u64 4 [IntKind.u64.wrap (t165), x5_1, 0, 0]) 67 (0, 0)) (by (with_reducible repeat (first | refine blk_drewN ?_ _ | refine blk_drew ?_ | refine blk_alloc ?_ _)); exact BK166.out)) : gb166 ≠ gb167)); have n6_ := Aside0.mk ((by rw [hg]; exact Nat.ne_of_gt (blk_lt (g := gb166) (o := .cells (Ar.cells .u64 4 [IntKind.u64.wrap (t165), x5_1, 0, 0]) 67 (0, 0)) (by (with_reducible repeat (first | refine blk_drewN ?_ _ | refine blk_drew ?_ | refine blk_alloc ?_ _)); exact BK166.out)) : gb167 ≠ gb166)); clear BK166; clear HB; have BK166 := n0_; have HB := n1_; have BK167 := n2_; have GW167 := n3_; have GE167 := n4_; have NB166_167 := n5_; have NB167_166 := n6_; clear n0_ n1_ n2_ n3_ n4_ n5_ n6_; clear hb hbox hg) | ((with_reducible refine gate_store (t := 67) (p := 8) rfl ?_); refine Ar.store_all_event rfl rfl rfl Try.underlying67 (by kernel_rfl) (g := gb167) rfl (z := [IntKind.u64.wrap ((Ar.get 4 [IntKind.u64.wrap (t165), x5_1, 0, 0] 0) + 1), x5_1, 0, 0]) (by first | rfl | (go_simp; done) | (go_simp; rfl)) (by (with_reducible repeat (first | refine blk_drewN ?_ _ | refine blk_drew ?_ | refine blk_alloc ?_ _)); exact BK167.out) ?_; intro w23 hbk_ hg; have n0_ := Aside0.mk (blk_grown (g := gb166) (o := .cells (Ar.cells .u64 4 [IntKind.u64.wrap (t165), x5_1, 0, 0]) 67 (0, 0)) (by (with_reducible repeat (first | refine blk_drewN ?_ _ | refine blk_drew ?_ | refine blk_alloc ?_ _)); exact BK166.out) hg (fun e_ => NB166_167.out (Option.some.inj e_))); have n1_ := Aside0.mk (hbk_); have n2_ := Aside0.mk (Below.grown (by repeat (first | (with_reducible first | exact HB.out | apply below_alloc | apply pw_below_drewN | apply below_drew1 | refine below_set ?_ GE166.out | refine below_set ?_ GE167.out) | exact HB.out)) hg ((below_size (by repeat (first | (with_reducible first | exact HB.out | apply below_alloc | apply pw_below_drewN | apply below_drew1 | refine below_set ?_ GE166.out | refine below_set ?_ GE167.out) | exact HB.out)))) (fun _ e_ => by cases e_; exact GE167.out)); clear BK166; clear BK167; clear HB; have BK166 := n0_; have BK167 := n1_; have HB := n2_; clear n0_ n1_ n2_; clear hbk_ hg) | ((with_reducible refine gate_dst (N := 49) rfl ?_); (try (refine gate_guard (by rfl) ?_; dsimp only)); refine Ar.idx_event rfl (D := 49) rfl (T := 67) (n := 4) rfl Try.underlying67 (by kernel_rfl) (g := gb166) rfl (j := 0) (by first | rfl | (go_simp; done) | (go_simp; rfl)) (by decide) (by decide) ?_) | ((with_reducible refine gate_dst (N := 50) rfl ?_); (try (refine gate_guard (by rfl) ?_; dsimp only)); refine Ar.get_event rfl (D := 50) rfl (E := 26) rfl Try.underlying26 (g := gb166) (j := 0) rfl (by (with_reducible repeat (first | refine blk_drewN ?_ _ | refine blk_drew ?_ | refine blk_alloc ?_ _)); exact BK166.out) (by decide) (by decide) ?_) | ((with_reducible refine gate_dst (N := 54) rfl ?_); (try (refine gate_guard (by rfl) ?_; dsimp only)); refine Ar.build_event rfl (D := 54) rfl (T := 67) rfl (k := .u64) (n := 4) (l := [0, IntKind.u64.wrap (x5_1 + 1), 0, 0]) Try.underlying67 (by kernel_rfl) (by kernel_rfl) [(0, 0), (1, IntKind.u64.wrap (x5_1 + 1))] (by rfl) (by rfl) (by rfl) ?_) | ((with_reducible refine gate_store (t := 67) (p := 8) rfl ?_); refine Ar.store_all_event rfl rfl rfl Try.underlying67 (by kernel_rfl) (g := gb167) rfl (z := [0, IntKind.u64.wrap (x5_1 + 1), 0, 0]) (by first | rfl | (go_simp; done) | (go_simp; rfl)) (by (with_reducible repeat (first | refine blk_drewN ?_ _ | refine blk_drew ?_ | refine blk_alloc ?_ _)); exact BK167.out) ?_; intro w24 hbk_ hg; have n0_ := Aside0.mk (blk_grown (g := gb166) (o := .cells (Ar.cells .u64 4 [IntKind.u64.wrap (t165), x5_1, 0, 0]) 67 (0, 0)) (by (with_reducible repeat (first | refine blk_drewN ?_ _ | refine blk_drew ?_ | refine blk_alloc ?_ _)); exact BK166.out) hg (fun e_ => NB166_167.out (Option.some.inj e_))); have n1_ := Aside0.mk (hbk_); have n2_ := Aside0.mk (Below.grown (by repeat (first | (with_reducible first | exact HB.out | apply below_alloc | apply pw_below_drewN | apply below_drew1 | refine below_set ?_ GE166.out | refine below_set ?_ GE167.out) | exact HB.out)) hg ((below_size (by repeat (first | (with_reducible first | exact HB.out | apply below_alloc | apply pw_below_drewN | apply below_drew1 | refine below_set ?_ GE166.out | refine below_set ?_ GE167.out) | exact HB.out)))) (fun _ e_ => by cases e_; exact GE167.out)); clear BK166; clear BK167; clear HB; have BK166 := n0_; have BK167 := n1_; have HB := n2_; clear n0_ n1_ n2_; clear hbk_ hg) | ((with_reducible refine gate_dst (N := 56) rfl ?_); (try (refine gate_guard (by rfl) ?_; dsimp only)); refine Ar.build_event rfl (D := 56) rfl (T := 67) rfl (k := .u64) (n := 4) (l := [0, 0, 0, t164]) Try.underlying67 (by kernel_rfl) (by kernel_rfl) [(0, 0), (1, 0), (2, 0), (3, t164)] (by rfl) (by rfl) (by rfl) ?_) | ((with_reducible refine gate_dst (N := 9) rfl ?_); (try (refine gate_guard (by rfl) ?_; dsimp only)); refine box_event ?hg (N := 9) ?hd (cs := (Ar.cells .u64 4 (List.replicate 4 0))) (t := 67) ?hr ?_; (case hd => rfl); (case hg => rfl); (case hr => first | exact Ar.box_run rfl rfl | exact Ar.alloc_run rfl (by kernel_rfl) | (go_simp; done) | (go_simp; rfl)); intro gb168 hg w25 hbox hb; have n0_ := Aside0.mk (blk_below (g := gb166) (o := .cells (Ar.cells .u64 4 [IntKind.u64.wrap (t165), x5_1, 0, 0]) 67 (0, 0)) (by (with_reducible repeat (first | refine blk_drewN ?_ _ | refine blk_drew ?_ | refine blk_alloc ?_ _)); exact BK166.out) hb); have n1_ := Aside0.mk (blk_below (g := gb167) (o := .cells (Ar.cells .u64 4 [0, IntKind.u64.wrap (x5_1 + 1), 0, 0]) 67 (0, 0)) (by (with_reducible repeat (first | refine blk_drewN ?_ _ | refine blk_drew ?_ | refine blk_alloc ?_ _)); exact BK167.out) hb); have n2_ := Aside0.mk (below_step (by repeat (first | (with_reducible first | exact HB.out | apply below_alloc | apply pw_below_drewN | apply below_drew1 | refine below_set ?_ GE166.out | refine below_set ?_ GE167.out) | exact HB.out)) hb); have n3_ := Aside0.mk (hbox); have n4_ := Aside0.mk ((by rw [hg]; exact (below_size (by repeat (first | (with_reducible first | exact HB.out | apply below_alloc | apply pw_below_drewN | apply below_drew1 | refine below_set ?_ GE166.out | refine below_set ?_ GE167.out) | exact HB.out))) : w.heap.size ≤ gb168)); have n5_ := Aside0.mk ((by rw [hg]; exact (below_size (by repeat (first | (with_reducible first | exact HB.out | apply below_alloc | apply pw_below_drewN | apply below_drew1 | refine below_set ?_ GE166.out | refine below_set ?_ GE167.out) | exact HB.out))) : w.heap.size ≤ gb168)); have n6_ := Aside0.mk ((by rw [hg]; exact Nat.ne_of_lt (blk_lt (g := gb166) (o := .cells (Ar.cells .u64 4 [IntKind.u64.wrap (t165), x5_1, 0, 0]) 67 (0, 0)) (by (with_reducible repeat (first | refine blk_drewN ?_ _ | refine blk_drew ?_ | refine blk_alloc ?_ _)); exact BK166.out)) : gb166 ≠ gb168)); have n7_ := Aside0.mk ((by rw [hg]; exact Nat.ne_of_gt (blk_lt (g := gb166) (o := .cells (Ar.cells .u64 4 [IntKind.u64.wrap (t165), x5_1, 0, 0]) 67 (0, 0)) (by (with_reducible repeat (first | refine blk_drewN ?_ _ | refine blk_drew ?_ | refine blk_alloc ?_ _)); exact BK166.out)) : gb168 ≠ gb166)); have n8_ := Aside0.mk ((by rw [hg]; exact Nat.ne_of_lt (blk_lt (g := gb167) (o := .cells (Ar.cells .u64 4 [0, IntKind.u64.wrap (x5_1 + 1), 0, 0]) 67 (0, 0)) (by (with_reducible repeat (first | refine blk_drewN ?_ _ | refine blk_drew ?_ | refine blk_alloc ?_ _)); exact BK167.out)) : gb167 ≠ gb168)); have n9_ := Aside0.mk ((by rw [hg]; exact Nat.ne_of_gt (blk_lt (g := gb167) (o := .cells (Ar.cells .u64 4 [0, IntKind.u64.wrap (x5_1 + 1), 0, 0]) 67 (0, 0)) (by (with_reducible repeat (first | refine blk_drewN ?_ _ | refine blk_drew ?_ | refine blk_alloc ?_ _)); exact BK167.out)) : gb168 ≠ gb167)); clear BK166; clear BK167; clear HB; have BK166 := n0_; have BK167 := n1_; have HB := n2_; have BK168 := n3_; have GW168 := n4_; have GE168 := n5_; have NB166_168 := n6_; have NB168_166 := n7_; have NB167_168 := n8_; have NB168_167 := n9_; clear n0_ n1_ n2_ n3_ n4_ n5_ n6_ n7_ n8_ n9_; clear hb hbox hg) | ((with_reducible refine gate_store (t := 67) (p := 9) rfl ?_); refine Ar.store_all_event rfl rfl rfl Try.underlying67 (by kernel_rfl) (g := gb168) rfl (z := [0, 0, 0, t164]) (by first | rfl | (go_simp; done) | (go_simp; rfl)) (by (with_reducible repeat (first | refine blk_drewN ?_ _ | refine blk_drew ?_ | refine blk_alloc ?_ _)); exact BK168.out) ?_; intro w26 hbk_ hg; have n0_ := Aside0.mk (blk_grown (g := gb166) (o := .cells (Ar.cells .u64 4 [IntKind.u64.wrap (t165), x5_1, 0, 0]) 67 (0, 0)) (by (with_reducible repeat (first | refine blk_drewN ?_ _ | refine blk_drew ?_ | refine blk_alloc ?_ _)); exact BK166.out) hg (fun e_ => NB166_168.out (Option.some.inj e_))); have n1_ := Aside0.mk (blk_grown (g := gb167) (o := .cells (Ar.cells .u64 4 [0, IntKind.u64.wrap (x5_1 + 1), 0, 0]) 67 (0, 0)) (by (with_reducible repeat (first | refine blk_drewN ?_ _ | refine blk_drew ?_ | refine blk_alloc ?_ _)); exact BK167.out) hg (fun e_ => NB167_168.out (Option.some.inj e_))); have n2_ := Aside0.mk (hbk_); have n3_ := Aside0.mk (Below.grown (by repeat (first | (with_reducible first | exact HB.out | apply below_alloc | apply pw_below_drewN | apply below_drew1 | refine below_set ?_ GE166.out | refine below_set ?_ GE167.out | refine below_set ?_ GE168.out) | exact HB.out)) hg ((below_size (by repeat (first | (with_reducible first | exact HB.out | apply below_alloc | apply pw_below_drewN | apply below_drew1 | refine below_set ?_ GE166.out | refine below_set ?_ GE167.out | refine below_set ?_ GE168.out) | exact HB.out)))) (fun _ e_ => by cases e_; exact GE168.out)); clear BK166; clear BK167; clear BK168; clear HB; have BK166 := n0_; have BK167 := n1_; have BK168 := n2_; have HB := n3_; clear n0_ n1_ n2_ n3_; clear hbk_ hg))
            have n0_ := Aside0.mk (blk_drew BK166.out)
            have n1_ := Aside0.mk (blk_drew BK167.out)
            have n2_ := Aside0.mk (blk_drew BK168.out)
            have n3_ := Aside0.mk (below_drew1 HB.out)
            clear BK166
            clear BK167
            clear BK168
            clear HB
            have BK166 := n0_
            have BK167 := n1_
            have BK168 := n2_
            have HB := n3_
            clear n0_ n1_ n2_ n3_
            refine start_ (n := 17) (S := fun w' => w'.heap[gb168]? = some (.cells (Ar.cells .u64 4 [0, 0, 0, t164]) 67 (0, 0)) ∧ w'.heap[gb166]? = some (.cells (Ar.cells .u64 4 [IntKind.u64.wrap (t165), x5_1, 0, 0]) 67 (0, 0)) ∧ w'.heap[gb167]? = some (.cells (Ar.cells .u64 4 [0, IntKind.u64.wrap (x5_1 + 1), 0, 0]) 67 (0, 0))) (ds := []) #[false, false, false, false, false, false, false, false, false, false, false, false, false, false, false, false, false] (by kernel_rfl) rfl rfl ⟨BK168.out, BK166.out, BK167.out⟩ (fun hHeld => ?_); refine with_tabW drawlotlaw04_CompRoots.tab15 drawlotlaw04_CompRoots.bits15 (fun HT_ HW_ => ?_)
            generalize w26.drew = w27 at BK166 BK167 BK168 HB hHeld ⊢
            refine take_ (i := 0) (N := some 57) (v := ?_) (a' := ?_) #[true, false, false, false, false, false, false, false, false, false, false, false, false, false, false, false, false] rfl rfl (take_ofW HT_.out HW_.out (by kernel_rfl)) (fun _ _ _ h => h) (Or.inl ⟨by rfl, ?_⟩) hHeld ?_ ?_
            rotate_left
            ·rintro w' ⟨s0, s1, s2⟩
             first | (refine (Ar.load_run rfl Try.underlying67 (by kernel_rfl) rfl (by assumption)).trans ?_; with_reducible rfl) | (go_simp; with_reducible rfl)
            rotate_left
            ·simp only [Act.put, List.setIfInBounds_toArray, List.set_cons_zero, List.set_cons_succ, i64_w, i32_w]
             rfl
            refine take_ (i := 1) (N := some 58) (v := ?_) (a' := ?_) #[true, true, false, false, false, false, false, false, false, false, false, false, false, false, false, false, false] rfl rfl (take_ofW HT_.out HW_.out (by kernel_rfl)) (fun _ _ _ h => h) (Or.inl ⟨by rfl, ?_⟩) hHeld ?_ ?_
            rotate_left
            ·rintro w' ⟨s0, s1, s2⟩
             first | (refine (Ar.load_run rfl Try.underlying67 (by kernel_rfl) rfl (by assumption)).trans ?_; with_reducible rfl) | (go_simp; with_reducible rfl)
            rotate_left
            ·simp only [Act.put, List.setIfInBounds_toArray, List.set_cons_zero, List.set_cons_succ, i64_w, i32_w]
             rfl
            refine take_ (i := 2) (N := some 59) (v := ?_) (a' := ?_) #[true, true, true, false, false, false, false, false, false, false, false, false, false, false, false, false, false] rfl rfl (take_ofW HT_.out HW_.out (by kernel_rfl)) (fun _ _ _ h => h) (Or.inl ⟨by rfl, ?_⟩) hHeld ?_ ?_
            rotate_left
            ·rintro w' ⟨s0, s1, s2⟩
             first | (refine (Ar.load_run rfl Try.underlying67 (by kernel_rfl) rfl (by assumption)).trans ?_; with_reducible rfl) | (go_simp; with_reducible rfl)
            rotate_left
            ·simp only [Act.put, List.setIfInBounds_toArray, List.set_cons_zero, List.set_cons_succ, i64_w, i32_w]
             rfl
            refine take_ (i := 4) (N := some 61) (v := ?_) (a' := ?_) #[true, true, true, false, true, false, false, false, false, false, false, false, false, false, false, false, false] rfl rfl (take_ofW HT_.out HW_.out (by kernel_rfl)) (fun _ _ _ h => h) (Or.inl ⟨by rfl, ?_⟩) hHeld ?_ ?_
            rotate_left
            ·rintro w' ⟨s0, s1, s2⟩
             first | (refine (Ar.load_run rfl Try.underlying67 (by kernel_rfl) rfl (by assumption)).trans ?_; with_reducible rfl) | (go_simp; with_reducible rfl)
            rotate_left
            ·simp only [Act.put, List.setIfInBounds_toArray, List.set_cons_zero, List.set_cons_succ, i64_w, i32_w]
             rfl
            refine one_ (i := 3) (N := some 60) #[true, true, true, true, true, false, false, false, false, false, false, false, false, false, false, false, false] rfl rfl (one_of HT_.out (by kernel_rfl)) (by decide) (fun K hK => ?_)
            refine goes_ Try.func60 (by kernel_rfl) rfl #[.agg (Ar.cells .u64 4 [IntKind.u64.wrap (t165), x5_1, 0, 0]), .agg (Ar.cells .u64 4 [IntKind.u64.wrap (t165), x5_1, 0, 0])] (by rfl) rfl rfl (by (try simp only [List.map_toArray, List.map_cons, List.map_nil]); first | done | rfl | (simp only [List.length_drop, List.length_take]; rfl)) ?_
            with_reducible refine (drawlotlaw04_mul.calls k2 [IntKind.u64.wrap (t165), x5_1, 0, 0] [IntKind.u64.wrap (t165), x5_1, 0, 0] t169 _ A10.out).mono ?_
            rintro e w28 ⟨rfl, hb⟩
            refine ⟨_, rfl, ?_⟩
            have n0_ := Aside0.mk (blk_below (g := gb166) (o := .cells (Ar.cells .u64 4 [IntKind.u64.wrap (t165), x5_1, 0, 0]) 67 (0, 0)) (by (with_reducible repeat (first | refine blk_drewN ?_ _ | refine blk_drew ?_ | refine blk_alloc ?_ _)); exact BK166.out) hb)
            have n1_ := Aside0.mk (blk_below (g := gb167) (o := .cells (Ar.cells .u64 4 [0, IntKind.u64.wrap (x5_1 + 1), 0, 0]) 67 (0, 0)) (by (with_reducible repeat (first | refine blk_drewN ?_ _ | refine blk_drew ?_ | refine blk_alloc ?_ _)); exact BK167.out) hb)
            have n2_ := Aside0.mk (blk_below (g := gb168) (o := .cells (Ar.cells .u64 4 [0, 0, 0, t164]) 67 (0, 0)) (by (with_reducible repeat (first | refine blk_drewN ?_ _ | refine blk_drew ?_ | refine blk_alloc ?_ _)); exact BK168.out) hb)
            have n3_ := Aside0.mk (below_step (by repeat (first | (with_reducible first | exact HB.out | apply below_alloc | apply pw_below_drewN | apply below_drew1 | refine below_set ?_ GE166.out | refine below_set ?_ GE167.out | refine below_set ?_ GE168.out) | exact HB.out)) hb)
            clear BK166
            clear BK167
            clear BK168
            clear HB
            have BK166 := n0_
            have BK167 := n1_
            have BK168 := n2_
            have HB := n3_
            clear n0_ n1_ n2_ n3_
            (try clear hb)
            (try clear hb2)
            (try clear hk)
            (try clear hi)
            refine hK.out _ _ ⟨BK168.out, BK166.out, BK167.out⟩ (fun hHeld => ?_)
            clear hK K
            refine norm_ (a' := ?_) ?_ ?_
            rotate_left
            ·show Act.put _ (some 60) _ = _
             simp only [Act.put, List.setIfInBounds_toArray, List.set_cons_zero, List.set_cons_succ, i64_w, i32_w]
             rfl
            refine one_ (i := 5) (N := some 62) #[true, true, true, true, true, true, false, false, false, false, false, false, false, false, false, false, false] rfl rfl (one_of HT_.out (by kernel_rfl)) (by decide) (fun K hK => ?_)
            refine goes_ Try.func60 (by kernel_rfl) rfl #[.agg (Ar.cells .u64 4 t169), .agg (Ar.cells .u64 4 [IntKind.u64.wrap (t165), x5_1, 0, 0])] (by rfl) rfl rfl (by (try simp only [List.map_toArray, List.map_cons, List.map_nil]); first | done | rfl | (simp only [List.length_drop, List.length_take]; rfl)) ?_
            with_reducible refine (drawlotlaw04_mul.calls k2 t169 [IntKind.u64.wrap (t165), x5_1, 0, 0] t170 _ A11.out).mono ?_
            rintro e w29 ⟨rfl, hb⟩
            refine ⟨_, rfl, ?_⟩
            have n0_ := Aside0.mk (blk_below (g := gb166) (o := .cells (Ar.cells .u64 4 [IntKind.u64.wrap (t165), x5_1, 0, 0]) 67 (0, 0)) (by (with_reducible repeat (first | refine blk_drewN ?_ _ | refine blk_drew ?_ | refine blk_alloc ?_ _)); exact BK166.out) hb)
            have n1_ := Aside0.mk (blk_below (g := gb167) (o := .cells (Ar.cells .u64 4 [0, IntKind.u64.wrap (x5_1 + 1), 0, 0]) 67 (0, 0)) (by (with_reducible repeat (first | refine blk_drewN ?_ _ | refine blk_drew ?_ | refine blk_alloc ?_ _)); exact BK167.out) hb)
            have n2_ := Aside0.mk (blk_below (g := gb168) (o := .cells (Ar.cells .u64 4 [0, 0, 0, t164]) 67 (0, 0)) (by (with_reducible repeat (first | refine blk_drewN ?_ _ | refine blk_drew ?_ | refine blk_alloc ?_ _)); exact BK168.out) hb)
            have n3_ := Aside0.mk (below_step (by repeat (first | (with_reducible first | exact HB.out | apply below_alloc | apply pw_below_drewN | apply below_drew1 | refine below_set ?_ GE166.out | refine below_set ?_ GE167.out | refine below_set ?_ GE168.out) | exact HB.out)) hb)
            clear BK166
            clear BK167
            clear BK168
            clear HB
            have BK166 := n0_
            have BK167 := n1_
            have BK168 := n2_
            have HB := n3_
            clear n0_ n1_ n2_ n3_
            (try clear hb)
            (try clear hb2)
            (try clear hk)
            (try clear hi)
            refine hK.out _ _ ⟨BK168.out, BK166.out, BK167.out⟩ (fun hHeld => ?_)
            clear hK K
            refine norm_ (a' := ?_) ?_ ?_
            rotate_left
            ·show Act.put _ (some 62) _ = _
             simp only [Act.put, List.setIfInBounds_toArray, List.set_cons_zero, List.set_cons_succ, i64_w, i32_w]
             rfl
            refine one_ (i := 6) (N := some 63) #[true, true, true, true, true, true, true, false, false, false, false, false, false, false, false, false, false] rfl rfl (one_of HT_.out (by kernel_rfl)) (by decide) (fun K hK => ?_)
            refine goes_ Try.func59 (by kernel_rfl) rfl #[.agg (Ar.cells .u64 4 [0, 0, 0, t164]), .agg (Ar.cells .u64 4 t170)] (by rfl) rfl rfl (by (try simp only [List.map_toArray, List.map_cons, List.map_nil]); first | done | rfl | (simp only [List.length_drop, List.length_take]; rfl)) ?_
            with_reducible refine (drawlotlaw04_less.calls k2 [0, 0, 0, t164] t170 false _ A12.out).mono ?_
            rintro e w30 ⟨rfl, hb⟩
            refine ⟨_, rfl, ?_⟩
            have n0_ := Aside0.mk (blk_below (g := gb166) (o := .cells (Ar.cells .u64 4 [IntKind.u64.wrap (t165), x5_1, 0, 0]) 67 (0, 0)) (by (with_reducible repeat (first | refine blk_drewN ?_ _ | refine blk_drew ?_ | refine blk_alloc ?_ _)); exact BK166.out) hb)
            have n1_ := Aside0.mk (blk_below (g := gb167) (o := .cells (Ar.cells .u64 4 [0, IntKind.u64.wrap (x5_1 + 1), 0, 0]) 67 (0, 0)) (by (with_reducible repeat (first | refine blk_drewN ?_ _ | refine blk_drew ?_ | refine blk_alloc ?_ _)); exact BK167.out) hb)
            have n2_ := Aside0.mk (blk_below (g := gb168) (o := .cells (Ar.cells .u64 4 [0, 0, 0, t164]) 67 (0, 0)) (by (with_reducible repeat (first | refine blk_drewN ?_ _ | refine blk_drew ?_ | refine blk_alloc ?_ _)); exact BK168.out) hb)
            have n3_ := Aside0.mk (below_step (by repeat (first | (with_reducible first | exact HB.out | apply below_alloc | apply pw_below_drewN | apply below_drew1 | refine below_set ?_ GE166.out | refine below_set ?_ GE167.out | refine below_set ?_ GE168.out) | exact HB.out)) hb)
            clear BK166
            clear BK167
            clear BK168
            clear HB
            have BK166 := n0_
            have BK167 := n1_
            have BK168 := n2_
            have HB := n3_
            clear n0_ n1_ n2_ n3_
            (try clear hb)
            (try clear hb2)
            (try clear hk)
            (try clear hi)
            refine hK.out _ _ ⟨BK168.out, BK166.out, BK167.out⟩ (fun hHeld => ?_)
            clear hK K
            refine norm_ (a' := ?_) ?_ ?_
            rotate_left
            ·show Act.put _ (some 63) _ = _
             simp only [Act.put, List.setIfInBounds_toArray, List.set_cons_zero, List.set_cons_succ, i64_w, i32_w]
             rfl
            refine pure_ (i := 7) (N := some 64) (v := ?_) (a' := ?_) #[true, true, true, true, true, true, true, true, false, false, false, false, false, false, false, false, false] rfl rfl (any_of HT_.out (by kernel_rfl)) (fun _ _ _ h => h) (Or.inl ⟨by rfl, ?_⟩) ?_ ?_
            rotate_left
            ·intro w'
             go_simp
             with_reducible rfl
            rotate_left
            ·simp only [Act.put, List.setIfInBounds_toArray, List.set_cons_zero, List.set_cons_succ, i64_w, i32_w]
             rfl
            refine take_ (i := 8) (N := some 65) (v := ?_) (a' := ?_) #[true, true, true, true, true, true, true, true, true, false, false, false, false, false, false, false, false] rfl rfl (take_ofW HT_.out HW_.out (by kernel_rfl)) (fun _ _ _ h => h) (Or.inl ⟨by rfl, ?_⟩) hHeld ?_ ?_
            rotate_left
            ·rintro w' ⟨s0, s1, s2⟩
             first | (refine (Ar.load_run rfl Try.underlying67 (by kernel_rfl) rfl (by assumption)).trans ?_; with_reducible rfl) | (go_simp; with_reducible rfl)
            rotate_left
            ·simp only [Act.put, List.setIfInBounds_toArray, List.set_cons_zero, List.set_cons_succ, i64_w, i32_w]
             rfl
            refine take_ (i := 9) (N := some 66) (v := ?_) (a' := ?_) #[true, true, true, true, true, true, true, true, true, true, false, false, false, false, false, false, false] rfl rfl (take_ofW HT_.out HW_.out (by kernel_rfl)) (fun _ _ _ h => h) (Or.inl ⟨by rfl, ?_⟩) hHeld ?_ ?_
            rotate_left
            ·rintro w' ⟨s0, s1, s2⟩
             first | (refine (Ar.load_run rfl Try.underlying67 (by kernel_rfl) rfl (by assumption)).trans ?_; with_reducible rfl) | (go_simp; with_reducible rfl)
            rotate_left
            ·simp only [Act.put, List.setIfInBounds_toArray, List.set_cons_zero, List.set_cons_succ, i64_w, i32_w]
             rfl
            refine take_ (i := 10) (N := some 67) (v := ?_) (a' := ?_) #[true, true, true, true, true, true, true, true, true, true, true, false, false, false, false, false, false] rfl rfl (take_ofW HT_.out HW_.out (by kernel_rfl)) (fun _ _ _ h => h) (Or.inl ⟨by rfl, ?_⟩) hHeld ?_ ?_
            rotate_left
            ·rintro w' ⟨s0, s1, s2⟩
             first | (refine (Ar.load_run rfl Try.underlying67 (by kernel_rfl) rfl (by assumption)).trans ?_; with_reducible rfl) | (go_simp; with_reducible rfl)
            rotate_left
            ·simp only [Act.put, List.setIfInBounds_toArray, List.set_cons_zero, List.set_cons_succ, i64_w, i32_w]
             rfl
            refine take_ (i := 12) (N := some 69) (v := ?_) (a' := ?_) #[true, true, true, true, true, true, true, true, true, true, true, false, true, false, false, false, false] rfl rfl (take_ofW HT_.out HW_.out (by kernel_rfl)) (fun _ _ _ h => h) (Or.inl ⟨by rfl, ?_⟩) hHeld ?_ ?_
            rotate_left
            ·rintro w' ⟨s0, s1, s2⟩
             first | (refine (Ar.load_run rfl Try.underlying67 (by kernel_rfl) rfl (by assumption)).trans ?_; with_reducible rfl) | (go_simp; with_reducible rfl)
            rotate_left
            ·simp only [Act.put, List.setIfInBounds_toArray, List.set_cons_zero, List.set_cons_succ, i64_w, i32_w]
             rfl
            refine one_ (i := 11) (N := some 68) #[true, true, true, true, true, true, true, true, true, true, true, true, true, false, false, false, false] rfl rfl (one_of HT_.out (by kernel_rfl)) (by decide) (fun K hK => ?_)
            refine goes_ Try.func60 (by kernel_rfl) rfl #[.agg (Ar.cells .u64 4 [0, IntKind.u64.wrap (x5_1 + 1), 0, 0]), .agg (Ar.cells .u64 4 [0, IntKind.u64.wrap (x5_1 + 1), 0, 0])] (by rfl) rfl rfl (by (try simp only [List.map_toArray, List.map_cons, List.map_nil]); first | done | rfl | (simp only [List.length_drop, List.length_take]; rfl)) ?_
            with_reducible refine (drawlotlaw04_mul.calls k2 [0, IntKind.u64.wrap (x5_1 + 1), 0, 0] [0, IntKind.u64.wrap (x5_1 + 1), 0, 0] t172 _ A14.out).mono ?_
            rintro e w31 ⟨rfl, hb⟩
            refine ⟨_, rfl, ?_⟩
            have n0_ := Aside0.mk (blk_below (g := gb166) (o := .cells (Ar.cells .u64 4 [IntKind.u64.wrap (t165), x5_1, 0, 0]) 67 (0, 0)) (by (with_reducible repeat (first | refine blk_drewN ?_ _ | refine blk_drew ?_ | refine blk_alloc ?_ _)); exact BK166.out) hb)
            have n1_ := Aside0.mk (blk_below (g := gb167) (o := .cells (Ar.cells .u64 4 [0, IntKind.u64.wrap (x5_1 + 1), 0, 0]) 67 (0, 0)) (by (with_reducible repeat (first | refine blk_drewN ?_ _ | refine blk_drew ?_ | refine blk_alloc ?_ _)); exact BK167.out) hb)
            have n2_ := Aside0.mk (blk_below (g := gb168) (o := .cells (Ar.cells .u64 4 [0, 0, 0, t164]) 67 (0, 0)) (by (with_reducible repeat (first | refine blk_drewN ?_ _ | refine blk_drew ?_ | refine blk_alloc ?_ _)); exact BK168.out) hb)
            have n3_ := Aside0.mk (below_step (by repeat (first | (with_reducible first | exact HB.out | apply below_alloc | apply pw_below_drewN | apply below_drew1 | refine below_set ?_ GE166.out | refine below_set ?_ GE167.out | refine below_set ?_ GE168.out) | exact HB.out)) hb)
            clear BK166
            clear BK167
            clear BK168
            clear HB
            have BK166 := n0_
            have BK167 := n1_
            have BK168 := n2_
            have HB := n3_
            clear n0_ n1_ n2_ n3_
            (try clear hb)
            (try clear hb2)
            (try clear hk)
            (try clear hi)
            refine hK.out _ _ ⟨BK168.out, BK166.out, BK167.out⟩ (fun hHeld => ?_)
            clear hK K
            refine norm_ (a' := ?_) ?_ ?_
            rotate_left
            ·show Act.put _ (some 68) _ = _
             simp only [Act.put, List.setIfInBounds_toArray, List.set_cons_zero, List.set_cons_succ, i64_w, i32_w]
             rfl
            refine one_ (i := 13) (N := some 70) #[true, true, true, true, true, true, true, true, true, true, true, true, true, true, false, false, false] rfl rfl (one_of HT_.out (by kernel_rfl)) (by decide) (fun K hK => ?_)
            refine goes_ Try.func60 (by kernel_rfl) rfl #[.agg (Ar.cells .u64 4 t172), .agg (Ar.cells .u64 4 [0, IntKind.u64.wrap (x5_1 + 1), 0, 0])] (by rfl) rfl rfl (by (try simp only [List.map_toArray, List.map_cons, List.map_nil]); first | done | rfl | (simp only [List.length_drop, List.length_take]; rfl)) ?_
            with_reducible refine (drawlotlaw04_mul.calls k2 t172 [0, IntKind.u64.wrap (x5_1 + 1), 0, 0] t173 _ A15.out).mono ?_
            rintro e w32 ⟨rfl, hb⟩
            refine ⟨_, rfl, ?_⟩
            have n0_ := Aside0.mk (blk_below (g := gb166) (o := .cells (Ar.cells .u64 4 [IntKind.u64.wrap (t165), x5_1, 0, 0]) 67 (0, 0)) (by (with_reducible repeat (first | refine blk_drewN ?_ _ | refine blk_drew ?_ | refine blk_alloc ?_ _)); exact BK166.out) hb)
            have n1_ := Aside0.mk (blk_below (g := gb167) (o := .cells (Ar.cells .u64 4 [0, IntKind.u64.wrap (x5_1 + 1), 0, 0]) 67 (0, 0)) (by (with_reducible repeat (first | refine blk_drewN ?_ _ | refine blk_drew ?_ | refine blk_alloc ?_ _)); exact BK167.out) hb)
            have n2_ := Aside0.mk (blk_below (g := gb168) (o := .cells (Ar.cells .u64 4 [0, 0, 0, t164]) 67 (0, 0)) (by (with_reducible repeat (first | refine blk_drewN ?_ _ | refine blk_drew ?_ | refine blk_alloc ?_ _)); exact BK168.out) hb)
            have n3_ := Aside0.mk (below_step (by repeat (first | (with_reducible first | exact HB.out | apply below_alloc | apply pw_below_drewN | apply below_drew1 | refine below_set ?_ GE166.out | refine below_set ?_ GE167.out | refine below_set ?_ GE168.out) | exact HB.out)) hb)
            clear BK166
            clear BK167
            clear BK168
            clear HB
            have BK166 := n0_
            have BK167 := n1_
            have BK168 := n2_
            have HB := n3_
            clear n0_ n1_ n2_ n3_
            (try clear hb)
            (try clear hb2)
            (try clear hk)
            (try clear hi)
            refine hK.out _ _ ⟨BK168.out, BK166.out, BK167.out⟩ (fun hHeld => ?_)
            clear hK K
            refine norm_ (a' := ?_) ?_ ?_
            rotate_left
            ·show Act.put _ (some 70) _ = _
             simp only [Act.put, List.setIfInBounds_toArray, List.set_cons_zero, List.set_cons_succ, i64_w, i32_w]
             rfl
            refine one_ (i := 14) (N := some 71) #[true, true, true, true, true, true, true, true, true, true, true, true, true, true, true, false, false] rfl rfl (one_of HT_.out (by kernel_rfl)) (by decide) (fun K hK => ?_)
            refine goes_ Try.func59 (by kernel_rfl) rfl #[.agg (Ar.cells .u64 4 [0, 0, 0, t164]), .agg (Ar.cells .u64 4 t173)] (by rfl) rfl rfl (by (try simp only [List.map_toArray, List.map_cons, List.map_nil]); first | done | rfl | (simp only [List.length_drop, List.length_take]; rfl)) ?_
            with_reducible refine (drawlotlaw04_less.calls k2 [0, 0, 0, t164] t173 true _ A16.out).mono ?_
            rintro e w33 ⟨rfl, hb⟩
            refine ⟨_, rfl, ?_⟩
            have n0_ := Aside0.mk (blk_below (g := gb166) (o := .cells (Ar.cells .u64 4 [IntKind.u64.wrap (t165), x5_1, 0, 0]) 67 (0, 0)) (by (with_reducible repeat (first | refine blk_drewN ?_ _ | refine blk_drew ?_ | refine blk_alloc ?_ _)); exact BK166.out) hb)
            have n1_ := Aside0.mk (blk_below (g := gb167) (o := .cells (Ar.cells .u64 4 [0, IntKind.u64.wrap (x5_1 + 1), 0, 0]) 67 (0, 0)) (by (with_reducible repeat (first | refine blk_drewN ?_ _ | refine blk_drew ?_ | refine blk_alloc ?_ _)); exact BK167.out) hb)
            have n2_ := Aside0.mk (blk_below (g := gb168) (o := .cells (Ar.cells .u64 4 [0, 0, 0, t164]) 67 (0, 0)) (by (with_reducible repeat (first | refine blk_drewN ?_ _ | refine blk_drew ?_ | refine blk_alloc ?_ _)); exact BK168.out) hb)
            have n3_ := Aside0.mk (below_step (by repeat (first | (with_reducible first | exact HB.out | apply below_alloc | apply pw_below_drewN | apply below_drew1 | refine below_set ?_ GE166.out | refine below_set ?_ GE167.out | refine below_set ?_ GE168.out) | exact HB.out)) hb)
            clear BK166
            clear BK167
            clear BK168
            clear HB
            have BK166 := n0_
            have BK167 := n1_
            have BK168 := n2_
            have HB := n3_
            clear n0_ n1_ n2_ n3_
            (try clear hb)
            (try clear hb2)
            (try clear hk)
            (try clear hi)
            refine hK.out _ _ ⟨BK168.out, BK166.out, BK167.out⟩ (fun hHeld => ?_)
            clear hK K
            refine norm_ (a' := ?_) ?_ ?_
            rotate_left
            ·show Act.put _ (some 71) _ = _
             simp only [Act.put, List.setIfInBounds_toArray, List.set_cons_zero, List.set_cons_succ, i64_w, i32_w]
             rfl
            refine pure_ (i := 15) (N := some 72) (v := ?_) (a' := ?_) #[true, true, true, true, true, true, true, true, true, true, true, true, true, true, true, true, false] rfl rfl (any_of HT_.out (by kernel_rfl)) (fun _ _ _ h => h) (Or.inl ⟨by rfl, ?_⟩) ?_ ?_
            rotate_left
            ·intro w'
             go_simp
             with_reducible rfl
            rotate_left
            ·simp only [Act.put, List.setIfInBounds_toArray, List.set_cons_zero, List.set_cons_succ, i64_w, i32_w]
             rfl
            refine pure_ (i := 16) (N := some 73) (v := ?_) (a' := ?_) #[true, true, true, true, true, true, true, true, true, true, true, true, true, true, true, true, true] rfl rfl (any_of HT_.out (by kernel_rfl)) (fun _ _ _ h => h) (Or.inl ⟨by rfl, ?_⟩) ?_ ?_
            rotate_left
            ·intro w'
             go_simp
             with_reducible rfl
            rotate_left
            ·simp only [Act.put, List.setIfInBounds_toArray, List.set_cons_zero, List.set_cons_succ, i64_w, i32_w]
             rfl
            refine done_ (done_of HT_.out (by kernel_rfl)) ?_
            try go_wp2
            go_ret
            exact ⟨by first | rfl | (simp [errW_none, errW_some] <;> rfl) | (simp [*, errW_none, errW_some] <;> rfl), by repeat (first | (with_reducible first | exact HB.out | apply below_alloc | apply pw_below_drewN | apply below_drew1 | refine below_set ?_ GE166.out | refine below_set ?_ GE167.out | refine below_set ?_ GE168.out) | exact HB.out)⟩
           ·rw [if_neg c18] at H
            have c18b0 : decide (7 < (wrap64 (Int.tmod a0 64))) = false := decide_eq_false c18
            clear c18
            replace H := Option.bind_eq_some_iff.mp H
            obtain ⟨t175, A340, H⟩ := H
            replace H : (if 0 ≤ (wrap64 (Int.tmod a0 64)) then (if (wrap64 (Int.tmod a0 64)) < 8 then ((drawlotlaw04_mul.f k2 [IntKind.u64.wrap (Ar.get 8 t175 (wrap64 (Int.tmod a0 64))), x6_2, 0, 0] [IntKind.u64.wrap (Ar.get 8 t175 (wrap64 (Int.tmod a0 64))), x6_2, 0, 0]).bind fun t177 => ((drawlotlaw04_less.f k2 [0, 0, t164, 0] t177).bind fun t178 => (if t178 = true then (none) else ((drawlotlaw04_mul.f k2 [IntKind.u64.wrap ((Ar.get 4 [IntKind.u64.wrap (Ar.get 8 t175 (wrap64 (Int.tmod a0 64))), x6_2, 0, 0] 0) + 1), x6_2, 0, 0] [IntKind.u64.wrap ((Ar.get 4 [IntKind.u64.wrap (Ar.get 8 t175 (wrap64 (Int.tmod a0 64))), x6_2, 0, 0] 0) + 1), x6_2, 0, 0]).bind fun t179 => ((drawlotlaw04_less.f k2 [0, 0, t164, 0] t179).bind fun t180 => (some t180)))))) else (none)) else (none)) = some r := H
            have A34 := Aside0.mk A340
            clear A340
            obtain ⟨ji35, hji35⟩ : ∃ j_ : Int, (wrap64 (Int.tmod a0 64)) = j_ := ⟨_, rfl⟩
            replace H : (if 0 ≤ (ji35) then (if (ji35) < 8 then ((drawlotlaw04_mul.f k2 [IntKind.u64.wrap (Ar.get 8 t175 (ji35)), x6_2, 0, 0] [IntKind.u64.wrap (Ar.get 8 t175 (ji35)), x6_2, 0, 0]).bind fun t177 => ((drawlotlaw04_less.f k2 [0, 0, t164, 0] t177).bind fun t178 => (if t178 = true then (none) else ((drawlotlaw04_mul.f k2 [IntKind.u64.wrap ((Ar.get 4 [IntKind.u64.wrap (Ar.get 8 t175 (ji35)), x6_2, 0, 0] 0) + 1), x6_2, 0, 0] [IntKind.u64.wrap ((Ar.get 4 [IntKind.u64.wrap (Ar.get 8 t175 (ji35)), x6_2, 0, 0] 0) + 1), x6_2, 0, 0]).bind fun t179 => ((drawlotlaw04_less.f k2 [0, 0, t164, 0] t179).bind fun t180 => (some t180)))))) else (none)) else (none)) = some r := by first | (rw [hji35] at H; exact H) | (simp only [hji35] at H ⊢; exact H)
            (try rw [hji35] at c18b0)
            (try rw [hji35] at A8)
            (try rw [hji35] at A10)
            (try rw [hji35] at A11)
            (try rw [hji35] at A12)
            (try rw [hji35] at A14)
            (try rw [hji35] at A15)
            (try rw [hji35] at A16)
            (try rw [hji35] at A34)
            have hji35w : (IntKind.i64.wrap (Int.tmod a0 64)) = ji35 := (i64_w _).trans hji35
            by_cases c36 : 0 ≤ (ji35)
            ·rw [if_pos c36] at H
             have c36b0 : decide (0 ≤ (ji35)) = true := decide_eq_true c36
             clear c36
             by_cases c37 : (ji35) < 8
             ·rw [if_pos c37] at H
              have c37b0 : decide ((ji35) < 8) = true := decide_eq_true c37
              clear c37
              replace H := Option.bind_eq_some_iff.mp H
              obtain ⟨t177, A380, H⟩ := H
              replace H : ((drawlotlaw04_less.f k2 [0, 0, t164, 0] t177).bind fun t178 => (if t178 = true then (none) else ((drawlotlaw04_mul.f k2 [IntKind.u64.wrap ((Ar.get 4 [IntKind.u64.wrap (Ar.get 8 t175 (ji35)), x6_2, 0, 0] 0) + 1), x6_2, 0, 0] [IntKind.u64.wrap ((Ar.get 4 [IntKind.u64.wrap (Ar.get 8 t175 (ji35)), x6_2, 0, 0] 0) + 1), x6_2, 0, 0]).bind fun t179 => ((drawlotlaw04_less.f k2 [0, 0, t164, 0] t179).bind fun t180 => (some t180))))) = some r := H
              have A38 := Aside0.mk A380
              clear A380
              replace H := Option.bind_eq_some_iff.mp H
              obtain ⟨t178, A390, H⟩ := H
              replace H : (if t178 = true then (none) else ((drawlotlaw04_mul.f k2 [IntKind.u64.wrap ((Ar.get 4 [IntKind.u64.wrap (Ar.get 8 t175 (ji35)), x6_2, 0, 0] 0) + 1), x6_2, 0, 0] [IntKind.u64.wrap ((Ar.get 4 [IntKind.u64.wrap (Ar.get 8 t175 (ji35)), x6_2, 0, 0] 0) + 1), x6_2, 0, 0]).bind fun t179 => ((drawlotlaw04_less.f k2 [0, 0, t164, 0] t179).bind fun t180 => (some t180)))) = some r := H
              have A39 := Aside0.mk A390
              clear A390
              by_cases c40 : t178 = true
              ·subst c40
               have H1 : (none) = some r := by rw [if_pos rfl] at H; exact H
               clear H
               have H := H1
               clear H1
               exact absurd H (by simp)
              ·replace c40 := Bool.eq_false_iff.mpr c40
               subst c40
               have H1 : ((drawlotlaw04_mul.f k2 [IntKind.u64.wrap ((Ar.get 4 [IntKind.u64.wrap (Ar.get 8 t175 (ji35)), x6_2, 0, 0] 0) + 1), x6_2, 0, 0] [IntKind.u64.wrap ((Ar.get 4 [IntKind.u64.wrap (Ar.get 8 t175 (ji35)), x6_2, 0, 0] 0) + 1), x6_2, 0, 0]).bind fun t179 => ((drawlotlaw04_less.f k2 [0, 0, t164, 0] t179).bind fun t180 => (some t180))) = some r := by rw [if_neg (show ¬ (false = true) by decide)] at H; exact H
               clear H
               have H := H1
               clear H1
               replace H := Option.bind_eq_some_iff.mp H
               obtain ⟨t179, A410, H⟩ := H
               replace H : ((drawlotlaw04_less.f k2 [0, 0, t164, 0] t179).bind fun t180 => (some t180)) = some r := H
               have A41 := Aside0.mk A410
               clear A410
               replace H := Option.bind_eq_some_iff.mp H
               obtain ⟨t180, A420, H⟩ := H
               replace H : (some t180) = some r := H
               have A42 := Aside0.mk A420
               clear A420
               obtain rfl := Option.some.inj H
               try go_wp2_with (first | ((with_reducible refine gate_callee (f := 54) rfl ?_); refine goesL_ (some 40) rfl rfl Try.func54 (by kernel_rfl) rfl #[.int .i64 (ji35)] rfl (by (try simp only [List.map_toArray, List.map_cons, List.map_nil]); first | done | (simp only [hji35]; rfl) | rfl | (simp only [List.length_drop, List.length_take]; rfl)) ?_; (with_reducible refine (comp_Constant.calls (ji35) t165 _ A8.out).mono ?_); rintro e w43 ⟨rfl, hb⟩; refine ⟨_, rfl, ?_⟩; have n0_ := Aside0.mk (below_step (by repeat (first | (with_reducible first | exact HB.out | apply below_alloc | apply pw_below_drewN | apply below_drew1) | exact HB.out)) hb); clear HB; have HB := n0_; clear n0_; (try clear hb); (try clear hb2); (try clear hk); (try clear hi)) | ((with_reducible refine gate_dst (N := 43) rfl ?_); (try (refine gate_guard (by rfl) ?_; dsimp only)); refine Ar.build_event rfl (D := 43) rfl (T := 67) rfl (k := .u64) (n := 4) (l := [IntKind.u64.wrap (t165), x5_1, 0, 0]) Try.underlying67 (by kernel_rfl) (by kernel_rfl) [(0, IntKind.u64.wrap (t165)), (1, x5_1)] (by rfl) (by rfl) (by rfl) ?_) | ((with_reducible refine gate_dst (N := 7) rfl ?_); (try (refine gate_guard (by rfl) ?_; dsimp only)); refine box_event ?hg (N := 7) ?hd (cs := (Ar.cells .u64 4 (List.replicate 4 0))) (t := 67) ?hr ?_; (case hd => rfl); (case hg => rfl); (case hr => first | exact Ar.box_run rfl rfl | exact Ar.alloc_run rfl (by kernel_rfl) | (go_simp; done) | (go_simp; rfl)); intro gb166 hg w44 hbox hb; have n0_ := Aside0.mk (below_step (by repeat (first | (with_reducible first | exact HB.out | apply below_alloc | apply pw_below_drewN | apply below_drew1) | exact HB.out)) hb); have n1_ := Aside0.mk (hbox); have n2_ := Aside0.mk ((by rw [hg]; exact (below_size (by repeat (first | (with_reducible first | exact HB.out | apply below_alloc | apply pw_below_drewN | apply below_drew1) | exact HB.out))) : w.heap.size ≤ gb166)); have n3_ := Aside0.mk ((by rw [hg]; exact (below_size (by repeat (first | (with_reducible first | exact HB.out | apply below_alloc | apply pw_below_drewN | apply below_drew1) | exact HB.out))) : w.heap.size ≤ gb166)); clear HB; have HB := n0_; have BK166 := n1_; have GW166 := n2_; have GE166 := n3_; clear n0_ n1_ n2_ n3_; clear hb hbox hg) | ((with_reducible refine gate_store (t := 67) (p := 7) rfl ?_); refine Ar.store_all_event rfl rfl rfl Try.underlying67 (by kernel_rfl) (g := gb166) rfl (z := [IntKind.u64.wrap (t165), x5_1, 0, 0]) (by first | rfl | (go_simp; done) | (go_simp; rfl)) (by (with_reducible repeat (first | refine blk_drewN ?_ _ | refine blk_drew ?_ | refine blk_alloc ?_ _)); exact BK166.out) ?_; intro w45 hbk_ hg; have n0_ := Aside0.mk (hbk_); have n1_ := Aside0.mk (Below.grown (by repeat (first | (with_reducible first | exact HB.out | apply below_alloc | apply pw_below_drewN | apply below_drew1 | refine below_set ?_ GE166.out) | exact HB.out)) hg ((below_size (by repeat (first | (with_reducible first | exact HB.out | apply below_alloc | apply pw_below_drewN | apply below_drew1 | refine below_set ?_ GE166.out) | exact HB.out)))) (fun _ e_ => by cases e_; exact GE166.out)); clear BK166; clear HB; have BK166 := n0_; have HB := n1_; clear n0_ n1_; clear hbk_ hg) | ((with_reducible refine gate_dst (N := 44) rfl ?_); (try (refine gate_guard (by rfl) ?_; dsimp only)); refine Ar.idx_event rfl (D := 44) rfl (T := 67) (n := 4) rfl Try.underlying67 (by kernel_rfl) (g := gb166) rfl (j := 0) (by first | rfl | (go_simp; done) | (go_simp; rfl)) (by decide) (by decide) ?_) | ((with_reducible refine gate_dst (N := 45) rfl ?_); (try (refine gate_guard (by rfl) ?_; dsimp only)); refine Ar.get_event rfl (D := 45) rfl (E := 26) rfl Try.underlying26 (g := gb166) (j := 0) rfl (by (with_reducible repeat (first | refine blk_drewN ?_ _ | refine blk_drew ?_ | refine blk_alloc ?_ _)); exact BK166.out) (by decide) (by decide) ?_) | ((with_reducible refine gate_dst (N := 48) rfl ?_); (try (refine gate_guard (by rfl) ?_; dsimp only)); refine Ar.build_event rfl (D := 48) rfl (T := 67) rfl (k := .u64) (n := 4) (l := [IntKind.u64.wrap ((Ar.get 4 [IntKind.u64.wrap (t165), x5_1, 0, 0] 0) + 1), x5_1, 0, 0]) Try.underlying67 (by kernel_rfl) (by kernel_rfl) [(0, IntKind.u64.wrap ((Ar.get 4 [IntKind.u64.wrap (t165), x5_1, 0, 0] 0) + 1)), (1, x5_1)] (by rfl) (by rfl) (by rfl) ?_) | ((with_reducible refine gate_dst (N := 8) rfl ?_); (try (refine gate_guard (by rfl) ?_; dsimp only)); refine box_event ?hg (N := 8) ?hd (cs := (Ar.cells .u64 4 (List.replicate 4 0))) (t := 67) ?hr ?_; (case hd => rfl); (case hg => rfl); (case hr => first | exact Ar.box_run rfl rfl | exact Ar.alloc_run rfl (by kernel_rfl) | (go_simp; done) | (go_simp; rfl)); intro gb167 hg w46 hbox hb; have n0_ := Aside0.mk (blk_below (g := gb166) (o := .cells (Ar.cells .u64 4 [IntKind.u64.wrap (t165), x5_1, 0, 0]) 67 (0, 0)) (by (with_reducible repeat (first | refine blk_drewN ?_ _ | refine blk_drew ?_ | refine blk_alloc ?_ _)); exact BK166.out) hb); have n1_ := Aside0.mk (below_step (by repeat (first | (with_reducible first | exact HB.out | apply below_alloc | apply pw_below_drewN | apply below_drew1 | refine below_set ?_ GE166.out) | exact HB.out)) hb); have n2_ := Aside0.mk (hbox); have n3_ := Aside0.mk ((by rw [hg]; exact (below_size (by repeat (first | (with_reducible first | exact HB.out | apply below_alloc | apply pw_below_drewN | apply below_drew1 | refine below_set ?_ GE166.out) | exact HB.out))) : w.heap.size ≤ gb167)); have n4_ := Aside0.mk ((by rw [hg]; exact (below_size (by repeat (first | (with_reducible first | exact HB.out | apply below_alloc | apply pw_below_drewN | apply below_drew1 | refine below_set ?_ GE166.out) | exact HB.out))) : w.heap.size ≤ gb167)); have n5_ := Aside0.mk ((by rw [hg]; exact Nat.ne_of_lt (blk_lt (g := gb166) (o := .cells (Ar.cells .u64 4 [IntKind.u64.wrap (t165), x5_1, 0, 0]) 67 (0, 0)) (by (with_reducible repeat (first | refine blk_drewN ?_ _ | refine blk_drew ?_ | refine blk_alloc ?_ _)); exact BK166.out)) : gb166 ≠ gb167)); have n6_ := Aside0.mk ((by rw [hg]; exact Nat.ne_of_gt (blk_lt (g := gb166) (o := .cells (Ar.cells .u64 4 [IntKind.u64.wrap (t165), x5_1, 0, 0]) 67 (0, 0)) (by (with_reducible repeat (first | refine blk_drewN ?_ _ | refine blk_drew ?_ | refine blk_alloc ?_ _)); exact BK166.out)) : gb167 ≠ gb166)); clear BK166; clear HB; have BK166 := n0_; have HB := n1_; have BK167 := n2_; have GW167 := n3_; have GE167 := n4_; have NB166_167 := n5_; have NB167_166 := n6_; clear n0_ n1_ n2_ n3_ n4_ n5_ n6_; clear hb hbox hg) | ((with_reducible refine gate_store (t := 67) (p := 8) rfl ?_); refine Ar.store_all_event rfl rfl rfl Try.underlying67 (by kernel_rfl) (g := gb167) rfl (z := [IntKind.u64.wrap ((Ar.get 4 [IntKind.u64.wrap (t165), x5_1, 0, 0] 0) + 1), x5_1, 0, 0]) (by first | rfl | (go_simp; done) | (go_simp; rfl)) (by (with_reducible repeat (first | refine blk_drewN ?_ _ | refine blk_drew ?_ | refine blk_alloc ?_ _)); exact BK167.out) ?_; intro w47 hbk_ hg; have n0_ := Aside0.mk (blk_grown (g := gb166) (o := .cells (Ar.cells .u64 4 [IntKind.u64.wrap (t165), x5_1, 0, 0]) 67 (0, 0)) (by (with_reducible repeat (first | refine blk_drewN ?_ _ | refine blk_drew ?_ | refine blk_alloc ?_ _)); exact BK166.out) hg (fun e_ => NB166_167.out (Option.some.inj e_))); have n1_ := Aside0.mk (hbk_); have n2_ := Aside0.mk (Below.grown (by repeat (first | (with_reducible first | exact HB.out | apply below_alloc | apply pw_below_drewN | apply below_drew1 | refine below_set ?_ GE166.out | refine below_set ?_ GE167.out) | exact HB.out)) hg ((below_size (by repeat (first | (with_reducible first | exact HB.out | apply below_alloc | apply pw_below_drewN | apply below_drew1 | refine below_set ?_ GE166.out | refine below_set ?_ GE167.out) | exact HB.out)))) (fun _ e_ => by cases e_; exact GE167.out)); clear BK166; clear BK167; clear HB; have BK166 := n0_; have BK167 := n1_; have HB := n2_; clear n0_ n1_ n2_; clear hbk_ hg) | ((with_reducible refine gate_dst (N := 49) rfl ?_); (try (refine gate_guard (by rfl) ?_; dsimp only)); refine Ar.idx_event rfl (D := 49) rfl (T := 67) (n := 4) rfl Try.underlying67 (by kernel_rfl) (g := gb166) rfl (j := 0) (by first | rfl | (go_simp; done) | (go_simp; rfl)) (by decide) (by decide) ?_) | ((with_reducible refine gate_dst (N := 50) rfl ?_); (try (refine gate_guard (by rfl) ?_; dsimp only)); refine Ar.get_event rfl (D := 50) rfl (E := 26) rfl Try.underlying26 (g := gb166) (j := 0) rfl (by (with_reducible repeat (first | refine blk_drewN ?_ _ | refine blk_drew ?_ | refine blk_alloc ?_ _)); exact BK166.out) (by decide) (by decide) ?_) | ((with_reducible refine gate_dst (N := 54) rfl ?_); (try (refine gate_guard (by rfl) ?_; dsimp only)); refine Ar.build_event rfl (D := 54) rfl (T := 67) rfl (k := .u64) (n := 4) (l := [0, IntKind.u64.wrap (x5_1 + 1), 0, 0]) Try.underlying67 (by kernel_rfl) (by kernel_rfl) [(0, 0), (1, IntKind.u64.wrap (x5_1 + 1))] (by rfl) (by rfl) (by rfl) ?_) | ((with_reducible refine gate_store (t := 67) (p := 8) rfl ?_); refine Ar.store_all_event rfl rfl rfl Try.underlying67 (by kernel_rfl) (g := gb167) rfl (z := [0, IntKind.u64.wrap (x5_1 + 1), 0, 0]) (by first | rfl | (go_simp; done) | (go_simp; rfl)) (by (with_reducible repeat (first | refine blk_drewN ?_ _ | refine blk_drew ?_ | refine blk_alloc ?_ _)); exact BK167.out) ?_; intro w48 hbk_ hg; have n0_ := Aside0.mk (blk_grown (g := gb166) (o := .cells (Ar.cells .u64 4 [IntKind.u64.wrap (t165), x5_1, 0, 0]) 67 (0, 0)) (by (with_reducible repeat (first | refine blk_drewN ?_ _ | refine blk_drew ?_ | refine blk_alloc ?_ _)); exact BK166.out) hg (fun e_ => NB166_167.out (Option.some.inj e_))); have n1_ := Aside0.mk (hbk_); have n2_ := Aside0.mk (Below.grown (by repeat (first | (with_reducible first | exact HB.out | apply below_alloc | apply pw_below_drewN | apply below_drew1 | refine below_set ?_ GE166.out | refine below_set ?_ GE167.out) | exact HB.out)) hg ((below_size (by repeat (first | (with_reducible first | exact HB.out | apply below_alloc | apply pw_below_drewN | apply below_drew1 | refine below_set ?_ GE166.out | refine below_set ?_ GE167.out) | exact HB.out)))) (fun _ e_ => by cases e_; exact GE167.out)); clear BK166; clear BK167; clear HB; have BK166 := n0_; have BK167 := n1_; have HB := n2_; clear n0_ n1_ n2_; clear hbk_ hg) | ((with_reducible refine gate_dst (N := 56) rfl ?_); (try (refine gate_guard (by rfl) ?_; dsimp only)); refine Ar.build_event rfl (D := 56) rfl (T := 67) rfl (k := .u64) (n := 4) (l := [0, 0, 0, t164]) Try.underlying67 (by kernel_rfl) (by kernel_rfl) [(0, 0), (1, 0), (2, 0), (3, t164)] (by rfl) (by rfl) (by rfl) ?_) | ((with_reducible refine gate_dst (N := 9) rfl ?_); (try (refine gate_guard (by rfl) ?_; dsimp only)); refine box_event ?hg (N := 9) ?hd (cs := (Ar.cells .u64 4 (List.replicate 4 0))) (t := 67) ?hr ?_; (case hd => rfl); (case hg => rfl); (case hr => first | exact Ar.box_run rfl rfl | exact Ar.alloc_run rfl (by kernel_rfl) | (go_simp; done) | (go_simp; rfl)); intro gb168 hg w49 hbox hb; have n0_ := Aside0.mk (blk_below (g := gb166) (o := .cells (Ar.cells .u64 4 [IntKind.u64.wrap (t165), x5_1, 0, 0]) 67 (0, 0)) (by (with_reducible repeat (first | refine blk_drewN ?_ _ | refine blk_drew ?_ | refine blk_alloc ?_ _)); exact BK166.out) hb); have n1_ := Aside0.mk (blk_below (g := gb167) (o := .cells (Ar.cells .u64 4 [0, IntKind.u64.wrap (x5_1 + 1), 0, 0]) 67 (0, 0)) (by (with_reducible repeat (first | refine blk_drewN ?_ _ | refine blk_drew ?_ | refine blk_alloc ?_ _)); exact BK167.out) hb); have n2_ := Aside0.mk (below_step (by repeat (first | (with_reducible first | exact HB.out | apply below_alloc | apply pw_below_drewN | apply below_drew1 | refine below_set ?_ GE166.out | refine below_set ?_ GE167.out) | exact HB.out)) hb); have n3_ := Aside0.mk (hbox); have n4_ := Aside0.mk ((by rw [hg]; exact (below_size (by repeat (first | (with_reducible first | exact HB.out | apply below_alloc | apply pw_below_drewN | apply below_drew1 | refine below_set ?_ GE166.out | refine below_set ?_ GE167.out) | exact HB.out))) : w.heap.size ≤ gb168)); have n5_ := Aside0.mk ((by rw [hg]; exact (below_size (by repeat (first | (with_reducible first | exact HB.out | apply below_alloc | apply pw_below_drewN | apply below_drew1 | refine below_set ?_ GE166.out | refine below_set ?_ GE167.out) | exact HB.out))) : w.heap.size ≤ gb168)); have n6_ := Aside0.mk ((by rw [hg]; exact Nat.ne_of_lt (blk_lt (g := gb166) (o := .cells (Ar.cells .u64 4 [IntKind.u64.wrap (t165), x5_1, 0, 0]) 67 (0, 0)) (by (with_reducible repeat (first | refine blk_drewN ?_ _ | refine blk_drew ?_ | refine blk_alloc ?_ _)); exact BK166.out)) : gb166 ≠ gb168)); have n7_ := Aside0.mk ((by rw [hg]; exact Nat.ne_of_gt (blk_lt (g := gb166) (o := .cells (Ar.cells .u64 4 [IntKind.u64.wrap (t165), x5_1, 0, 0]) 67 (0, 0)) (by (with_reducible repeat (first | refine blk_drewN ?_ _ | refine blk_drew ?_ | refine blk_alloc ?_ _)); exact BK166.out)) : gb168 ≠ gb166)); have n8_ := Aside0.mk ((by rw [hg]; exact Nat.ne_of_lt (blk_lt (g := gb167) (o := .cells (Ar.cells .u64 4 [0, IntKind.u64.wrap (x5_1 + 1), 0, 0]) 67 (0, 0)) (by (with_reducible repeat (first | refine blk_drewN ?_ _ | refine blk_drew ?_ | refine blk_alloc ?_ _)); exact BK167.out)) : gb167 ≠ gb168)); have n9_ := Aside0.mk ((by rw [hg]; exact Nat.ne_of_gt (blk_lt (g := gb167) (o := .cells (Ar.cells .u64 4 [0, IntKind.u64.wrap (x5_1 + 1), 0, 0]) 67 (0, 0)) (by (with_reducible repeat (first | refine blk_drewN ?_ _ | refine blk_drew ?_ | refine blk_alloc ?_ _)); exact BK167.out)) : gb168 ≠ gb167)); clear BK166; clear BK167; clear HB; have BK166 := n0_; have BK167 := n1_; have HB := n2_; have BK168 := n3_; have GW168 := n4_; have GE168 := n5_; have NB166_168 := n6_; have NB168_166 := n7_; have NB167_168 := n8_; have NB168_167 := n9_; clear n0_ n1_ n2_ n3_ n4_ n5_ n6_ n7_ n8_ n9_; clear hb hbox hg) | ((with_reducible refine gate_store (t := 67) (p := 9) rfl ?_); refine Ar.store_all_event rfl rfl rfl Try.underlying67 (by kernel_rfl) (g := gb168) rfl (z := [0, 0, 0, t164]) (by first | rfl | (go_simp; done) | (go_simp; rfl)) (by (with_reducible repeat (first | refine blk_drewN ?_ _ | refine blk_drew ?_ | refine blk_alloc ?_ _)); exact BK168.out) ?_; intro w50 hbk_ hg; have n0_ := Aside0.mk (blk_grown (g := gb166) (o := .cells (Ar.cells .u64 4 [IntKind.u64.wrap (t165), x5_1, 0, 0]) 67 (0, 0)) (by (with_reducible repeat (first | refine blk_drewN ?_ _ | refine blk_drew ?_ | refine blk_alloc ?_ _)); exact BK166.out) hg (fun e_ => NB166_168.out (Option.some.inj e_))); have n1_ := Aside0.mk (blk_grown (g := gb167) (o := .cells (Ar.cells .u64 4 [0, IntKind.u64.wrap (x5_1 + 1), 0, 0]) 67 (0, 0)) (by (with_reducible repeat (first | refine blk_drewN ?_ _ | refine blk_drew ?_ | refine blk_alloc ?_ _)); exact BK167.out) hg (fun e_ => NB167_168.out (Option.some.inj e_))); have n2_ := Aside0.mk (hbk_); have n3_ := Aside0.mk (Below.grown (by repeat (first | (with_reducible first | exact HB.out | apply below_alloc | apply pw_below_drewN | apply below_drew1 | refine below_set ?_ GE166.out | refine below_set ?_ GE167.out | refine below_set ?_ GE168.out) | exact HB.out)) hg ((below_size (by repeat (first | (with_reducible first | exact HB.out | apply below_alloc | apply pw_below_drewN | apply below_drew1 | refine below_set ?_ GE166.out | refine below_set ?_ GE167.out | refine below_set ?_ GE168.out) | exact HB.out)))) (fun _ e_ => by cases e_; exact GE168.out)); clear BK166; clear BK167; clear BK168; clear HB; have BK166 := n0_; have BK167 := n1_; have BK168 := n2_; have HB := n3_; clear n0_ n1_ n2_ n3_; clear hbk_ hg))
               have n0_ := Aside0.mk (blk_drew BK166.out)
               have n1_ := Aside0.mk (blk_drew BK167.out)
               have n2_ := Aside0.mk (blk_drew BK168.out)
               have n3_ := Aside0.mk (below_drew1 HB.out)
               clear BK166
               clear BK167
               clear BK168
               clear HB
               have BK166 := n0_
               have BK167 := n1_
               have BK168 := n2_
               have HB := n3_
               clear n0_ n1_ n2_ n3_
               refine start_ (n := 17) (S := fun w' => w'.heap[gb168]? = some (.cells (Ar.cells .u64 4 [0, 0, 0, t164]) 67 (0, 0)) ∧ w'.heap[gb166]? = some (.cells (Ar.cells .u64 4 [IntKind.u64.wrap (t165), x5_1, 0, 0]) 67 (0, 0)) ∧ w'.heap[gb167]? = some (.cells (Ar.cells .u64 4 [0, IntKind.u64.wrap (x5_1 + 1), 0, 0]) 67 (0, 0))) (ds := []) #[false, false, false, false, false, false, false, false, false, false, false, false, false, false, false, false, false] (by kernel_rfl) rfl rfl ⟨BK168.out, BK166.out, BK167.out⟩ (fun hHeld => ?_); refine with_tabW drawlotlaw04_CompRoots.tab15 drawlotlaw04_CompRoots.bits15 (fun HT_ HW_ => ?_)
               generalize w50.drew = w51 at BK166 BK167 BK168 HB hHeld ⊢
               refine take_ (i := 0) (N := some 57) (v := ?_) (a' := ?_) #[true, false, false, false, false, false, false, false, false, false, false, false, false, false, false, false, false] rfl rfl (take_ofW HT_.out HW_.out (by kernel_rfl)) (fun _ _ _ h => h) (Or.inl ⟨by rfl, ?_⟩) hHeld ?_ ?_
               rotate_left
               ·rintro w' ⟨s0, s1, s2⟩
                first | (refine (Ar.load_run rfl Try.underlying67 (by kernel_rfl) rfl (by assumption)).trans ?_; with_reducible rfl) | (go_simp; with_reducible rfl)
               rotate_left
               ·simp only [Act.put, List.setIfInBounds_toArray, List.set_cons_zero, List.set_cons_succ, i64_w, i32_w]
                rfl
               refine take_ (i := 1) (N := some 58) (v := ?_) (a' := ?_) #[true, true, false, false, false, false, false, false, false, false, false, false, false, false, false, false, false] rfl rfl (take_ofW HT_.out HW_.out (by kernel_rfl)) (fun _ _ _ h => h) (Or.inl ⟨by rfl, ?_⟩) hHeld ?_ ?_
               rotate_left
               ·rintro w' ⟨s0, s1, s2⟩
                first | (refine (Ar.load_run rfl Try.underlying67 (by kernel_rfl) rfl (by assumption)).trans ?_; with_reducible rfl) | (go_simp; with_reducible rfl)
               rotate_left
               ·simp only [Act.put, List.setIfInBounds_toArray, List.set_cons_zero, List.set_cons_succ, i64_w, i32_w]
                rfl
               refine take_ (i := 2) (N := some 59) (v := ?_) (a' := ?_) #[true, true, true, false, false, false, false, false, false, false, false, false, false, false, false, false, false] rfl rfl (take_ofW HT_.out HW_.out (by kernel_rfl)) (fun _ _ _ h => h) (Or.inl ⟨by rfl, ?_⟩) hHeld ?_ ?_
               rotate_left
               ·rintro w' ⟨s0, s1, s2⟩
                first | (refine (Ar.load_run rfl Try.underlying67 (by kernel_rfl) rfl (by assumption)).trans ?_; with_reducible rfl) | (go_simp; with_reducible rfl)
               rotate_left
               ·simp only [Act.put, List.setIfInBounds_toArray, List.set_cons_zero, List.set_cons_succ, i64_w, i32_w]
                rfl
               refine take_ (i := 4) (N := some 61) (v := ?_) (a' := ?_) #[true, true, true, false, true, false, false, false, false, false, false, false, false, false, false, false, false] rfl rfl (take_ofW HT_.out HW_.out (by kernel_rfl)) (fun _ _ _ h => h) (Or.inl ⟨by rfl, ?_⟩) hHeld ?_ ?_
               rotate_left
               ·rintro w' ⟨s0, s1, s2⟩
                first | (refine (Ar.load_run rfl Try.underlying67 (by kernel_rfl) rfl (by assumption)).trans ?_; with_reducible rfl) | (go_simp; with_reducible rfl)
               rotate_left
               ·simp only [Act.put, List.setIfInBounds_toArray, List.set_cons_zero, List.set_cons_succ, i64_w, i32_w]
                rfl
               refine one_ (i := 3) (N := some 60) #[true, true, true, true, true, false, false, false, false, false, false, false, false, false, false, false, false] rfl rfl (one_of HT_.out (by kernel_rfl)) (by decide) (fun K hK => ?_)
               refine goes_ Try.func60 (by kernel_rfl) rfl #[.agg (Ar.cells .u64 4 [IntKind.u64.wrap (t165), x5_1, 0, 0]), .agg (Ar.cells .u64 4 [IntKind.u64.wrap (t165), x5_1, 0, 0])] (by rfl) rfl rfl (by (try simp only [List.map_toArray, List.map_cons, List.map_nil]); first | done | rfl | (simp only [List.length_drop, List.length_take]; rfl)) ?_
               with_reducible refine (drawlotlaw04_mul.calls k2 [IntKind.u64.wrap (t165), x5_1, 0, 0] [IntKind.u64.wrap (t165), x5_1, 0, 0] t169 _ A10.out).mono ?_
               rintro e w52 ⟨rfl, hb⟩
               refine ⟨_, rfl, ?_⟩
               have n0_ := Aside0.mk (blk_below (g := gb166) (o := .cells (Ar.cells .u64 4 [IntKind.u64.wrap (t165), x5_1, 0, 0]) 67 (0, 0)) (by (with_reducible repeat (first | refine blk_drewN ?_ _ | refine blk_drew ?_ | refine blk_alloc ?_ _)); exact BK166.out) hb)
               have n1_ := Aside0.mk (blk_below (g := gb167) (o := .cells (Ar.cells .u64 4 [0, IntKind.u64.wrap (x5_1 + 1), 0, 0]) 67 (0, 0)) (by (with_reducible repeat (first | refine blk_drewN ?_ _ | refine blk_drew ?_ | refine blk_alloc ?_ _)); exact BK167.out) hb)
               have n2_ := Aside0.mk (blk_below (g := gb168) (o := .cells (Ar.cells .u64 4 [0, 0, 0, t164]) 67 (0, 0)) (by (with_reducible repeat (first | refine blk_drewN ?_ _ | refine blk_drew ?_ | refine blk_alloc ?_ _)); exact BK168.out) hb)
               have n3_ := Aside0.mk (below_step (by repeat (first | (with_reducible first | exact HB.out | apply below_alloc | apply pw_below_drewN | apply below_drew1 | refine below_set ?_ GE166.out | refine below_set ?_ GE167.out | refine below_set ?_ GE168.out) | exact HB.out)) hb)
               clear BK166
               clear BK167
               clear BK168
               clear HB
               have BK166 := n0_
               have BK167 := n1_
               have BK168 := n2_
               have HB := n3_
               clear n0_ n1_ n2_ n3_
               (try clear hb)
               (try clear hb2)
               (try clear hk)
               (try clear hi)
               refine hK.out _ _ ⟨BK168.out, BK166.out, BK167.out⟩ (fun hHeld => ?_)
               clear hK K
               refine norm_ (a' := ?_) ?_ ?_
               rotate_left
               ·show Act.put _ (some 60) _ = _
                simp only [Act.put, List.setIfInBounds_toArray, List.set_cons_zero, List.set_cons_succ, i64_w, i32_w]
                rfl
               refine one_ (i := 5) (N := some 62) #[true, true, true, true, true, true, false, false, false, false, false, false, false, false, false, false, false] rfl rfl (one_of HT_.out (by kernel_rfl)) (by decide) (fun K hK => ?_)
               refine goes_ Try.func60 (by kernel_rfl) rfl #[.agg (Ar.cells .u64 4 t169), .agg (Ar.cells .u64 4 [IntKind.u64.wrap (t165), x5_1, 0, 0])] (by rfl) rfl rfl (by (try simp only [List.map_toArray, List.map_cons, List.map_nil]); first | done | rfl | (simp only [List.length_drop, List.length_take]; rfl)) ?_
               with_reducible refine (drawlotlaw04_mul.calls k2 t169 [IntKind.u64.wrap (t165), x5_1, 0, 0] t170 _ A11.out).mono ?_
               rintro e w53 ⟨rfl, hb⟩
               refine ⟨_, rfl, ?_⟩
               have n0_ := Aside0.mk (blk_below (g := gb166) (o := .cells (Ar.cells .u64 4 [IntKind.u64.wrap (t165), x5_1, 0, 0]) 67 (0, 0)) (by (with_reducible repeat (first | refine blk_drewN ?_ _ | refine blk_drew ?_ | refine blk_alloc ?_ _)); exact BK166.out) hb)
               have n1_ := Aside0.mk (blk_below (g := gb167) (o := .cells (Ar.cells .u64 4 [0, IntKind.u64.wrap (x5_1 + 1), 0, 0]) 67 (0, 0)) (by (with_reducible repeat (first | refine blk_drewN ?_ _ | refine blk_drew ?_ | refine blk_alloc ?_ _)); exact BK167.out) hb)
               have n2_ := Aside0.mk (blk_below (g := gb168) (o := .cells (Ar.cells .u64 4 [0, 0, 0, t164]) 67 (0, 0)) (by (with_reducible repeat (first | refine blk_drewN ?_ _ | refine blk_drew ?_ | refine blk_alloc ?_ _)); exact BK168.out) hb)
               have n3_ := Aside0.mk (below_step (by repeat (first | (with_reducible first | exact HB.out | apply below_alloc | apply pw_below_drewN | apply below_drew1 | refine below_set ?_ GE166.out | refine below_set ?_ GE167.out | refine below_set ?_ GE168.out) | exact HB.out)) hb)
               clear BK166
               clear BK167
               clear BK168
               clear HB
               have BK166 := n0_
               have BK167 := n1_
               have BK168 := n2_
               have HB := n3_
               clear n0_ n1_ n2_ n3_
               (try clear hb)
               (try clear hb2)
               (try clear hk)
               (try clear hi)
               refine hK.out _ _ ⟨BK168.out, BK166.out, BK167.out⟩ (fun hHeld => ?_)
               clear hK K
               refine norm_ (a' := ?_) ?_ ?_
               rotate_left
               ·show Act.put _ (some 62) _ = _
                simp only [Act.put, List.setIfInBounds_toArray, List.set_cons_zero, List.set_cons_succ, i64_w, i32_w]
                rfl
               refine one_ (i := 6) (N := some 63) #[true, true, true, true, true, true, true, false, false, false, false, false, false, false, false, false, false] rfl rfl (one_of HT_.out (by kernel_rfl)) (by decide) (fun K hK => ?_)
               refine goes_ Try.func59 (by kernel_rfl) rfl #[.agg (Ar.cells .u64 4 [0, 0, 0, t164]), .agg (Ar.cells .u64 4 t170)] (by rfl) rfl rfl (by (try simp only [List.map_toArray, List.map_cons, List.map_nil]); first | done | rfl | (simp only [List.length_drop, List.length_take]; rfl)) ?_
               with_reducible refine (drawlotlaw04_less.calls k2 [0, 0, 0, t164] t170 false _ A12.out).mono ?_
               rintro e w54 ⟨rfl, hb⟩
               refine ⟨_, rfl, ?_⟩
               have n0_ := Aside0.mk (blk_below (g := gb166) (o := .cells (Ar.cells .u64 4 [IntKind.u64.wrap (t165), x5_1, 0, 0]) 67 (0, 0)) (by (with_reducible repeat (first | refine blk_drewN ?_ _ | refine blk_drew ?_ | refine blk_alloc ?_ _)); exact BK166.out) hb)
               have n1_ := Aside0.mk (blk_below (g := gb167) (o := .cells (Ar.cells .u64 4 [0, IntKind.u64.wrap (x5_1 + 1), 0, 0]) 67 (0, 0)) (by (with_reducible repeat (first | refine blk_drewN ?_ _ | refine blk_drew ?_ | refine blk_alloc ?_ _)); exact BK167.out) hb)
               have n2_ := Aside0.mk (blk_below (g := gb168) (o := .cells (Ar.cells .u64 4 [0, 0, 0, t164]) 67 (0, 0)) (by (with_reducible repeat (first | refine blk_drewN ?_ _ | refine blk_drew ?_ | refine blk_alloc ?_ _)); exact BK168.out) hb)
               have n3_ := Aside0.mk (below_step (by repeat (first | (with_reducible first | exact HB.out | apply below_alloc | apply pw_below_drewN | apply below_drew1 | refine below_set ?_ GE166.out | refine below_set ?_ GE167.out | refine below_set ?_ GE168.out) | exact HB.out)) hb)
               clear BK166
               clear BK167
               clear BK168
               clear HB
               have BK166 := n0_
               have BK167 := n1_
               have BK168 := n2_
               have HB := n3_
               clear n0_ n1_ n2_ n3_
               (try clear hb)
               (try clear hb2)
               (try clear hk)
               (try clear hi)
               refine hK.out _ _ ⟨BK168.out, BK166.out, BK167.out⟩ (fun hHeld => ?_)
               clear hK K
               refine norm_ (a' := ?_) ?_ ?_
               rotate_left
               ·show Act.put _ (some 63) _ = _
                simp only [Act.put, List.setIfInBounds_toArray, List.set_cons_zero, List.set_cons_succ, i64_w, i32_w]
                rfl
               refine pure_ (i := 7) (N := some 64) (v := ?_) (a' := ?_) #[true, true, true, true, true, true, true, true, false, false, false, false, false, false, false, false, false] rfl rfl (any_of HT_.out (by kernel_rfl)) (fun _ _ _ h => h) (Or.inl ⟨by rfl, ?_⟩) ?_ ?_
               rotate_left
               ·intro w'
                go_simp
                with_reducible rfl
               rotate_left
               ·simp only [Act.put, List.setIfInBounds_toArray, List.set_cons_zero, List.set_cons_succ, i64_w, i32_w]
                rfl
               refine take_ (i := 8) (N := some 65) (v := ?_) (a' := ?_) #[true, true, true, true, true, true, true, true, true, false, false, false, false, false, false, false, false] rfl rfl (take_ofW HT_.out HW_.out (by kernel_rfl)) (fun _ _ _ h => h) (Or.inl ⟨by rfl, ?_⟩) hHeld ?_ ?_
               rotate_left
               ·rintro w' ⟨s0, s1, s2⟩
                first | (refine (Ar.load_run rfl Try.underlying67 (by kernel_rfl) rfl (by assumption)).trans ?_; with_reducible rfl) | (go_simp; with_reducible rfl)
               rotate_left
               ·simp only [Act.put, List.setIfInBounds_toArray, List.set_cons_zero, List.set_cons_succ, i64_w, i32_w]
                rfl
               refine take_ (i := 9) (N := some 66) (v := ?_) (a' := ?_) #[true, true, true, true, true, true, true, true, true, true, false, false, false, false, false, false, false] rfl rfl (take_ofW HT_.out HW_.out (by kernel_rfl)) (fun _ _ _ h => h) (Or.inl ⟨by rfl, ?_⟩) hHeld ?_ ?_
               rotate_left
               ·rintro w' ⟨s0, s1, s2⟩
                first | (refine (Ar.load_run rfl Try.underlying67 (by kernel_rfl) rfl (by assumption)).trans ?_; with_reducible rfl) | (go_simp; with_reducible rfl)
               rotate_left
               ·simp only [Act.put, List.setIfInBounds_toArray, List.set_cons_zero, List.set_cons_succ, i64_w, i32_w]
                rfl
               refine take_ (i := 10) (N := some 67) (v := ?_) (a' := ?_) #[true, true, true, true, true, true, true, true, true, true, true, false, false, false, false, false, false] rfl rfl (take_ofW HT_.out HW_.out (by kernel_rfl)) (fun _ _ _ h => h) (Or.inl ⟨by rfl, ?_⟩) hHeld ?_ ?_
               rotate_left
               ·rintro w' ⟨s0, s1, s2⟩
                first | (refine (Ar.load_run rfl Try.underlying67 (by kernel_rfl) rfl (by assumption)).trans ?_; with_reducible rfl) | (go_simp; with_reducible rfl)
               rotate_left
               ·simp only [Act.put, List.setIfInBounds_toArray, List.set_cons_zero, List.set_cons_succ, i64_w, i32_w]
                rfl
               refine take_ (i := 12) (N := some 69) (v := ?_) (a' := ?_) #[true, true, true, true, true, true, true, true, true, true, true, false, true, false, false, false, false] rfl rfl (take_ofW HT_.out HW_.out (by kernel_rfl)) (fun _ _ _ h => h) (Or.inl ⟨by rfl, ?_⟩) hHeld ?_ ?_
               rotate_left
               ·rintro w' ⟨s0, s1, s2⟩
                first | (refine (Ar.load_run rfl Try.underlying67 (by kernel_rfl) rfl (by assumption)).trans ?_; with_reducible rfl) | (go_simp; with_reducible rfl)
               rotate_left
               ·simp only [Act.put, List.setIfInBounds_toArray, List.set_cons_zero, List.set_cons_succ, i64_w, i32_w]
                rfl
               refine one_ (i := 11) (N := some 68) #[true, true, true, true, true, true, true, true, true, true, true, true, true, false, false, false, false] rfl rfl (one_of HT_.out (by kernel_rfl)) (by decide) (fun K hK => ?_)
               refine goes_ Try.func60 (by kernel_rfl) rfl #[.agg (Ar.cells .u64 4 [0, IntKind.u64.wrap (x5_1 + 1), 0, 0]), .agg (Ar.cells .u64 4 [0, IntKind.u64.wrap (x5_1 + 1), 0, 0])] (by rfl) rfl rfl (by (try simp only [List.map_toArray, List.map_cons, List.map_nil]); first | done | rfl | (simp only [List.length_drop, List.length_take]; rfl)) ?_
               with_reducible refine (drawlotlaw04_mul.calls k2 [0, IntKind.u64.wrap (x5_1 + 1), 0, 0] [0, IntKind.u64.wrap (x5_1 + 1), 0, 0] t172 _ A14.out).mono ?_
               rintro e w55 ⟨rfl, hb⟩
               refine ⟨_, rfl, ?_⟩
               have n0_ := Aside0.mk (blk_below (g := gb166) (o := .cells (Ar.cells .u64 4 [IntKind.u64.wrap (t165), x5_1, 0, 0]) 67 (0, 0)) (by (with_reducible repeat (first | refine blk_drewN ?_ _ | refine blk_drew ?_ | refine blk_alloc ?_ _)); exact BK166.out) hb)
               have n1_ := Aside0.mk (blk_below (g := gb167) (o := .cells (Ar.cells .u64 4 [0, IntKind.u64.wrap (x5_1 + 1), 0, 0]) 67 (0, 0)) (by (with_reducible repeat (first | refine blk_drewN ?_ _ | refine blk_drew ?_ | refine blk_alloc ?_ _)); exact BK167.out) hb)
               have n2_ := Aside0.mk (blk_below (g := gb168) (o := .cells (Ar.cells .u64 4 [0, 0, 0, t164]) 67 (0, 0)) (by (with_reducible repeat (first | refine blk_drewN ?_ _ | refine blk_drew ?_ | refine blk_alloc ?_ _)); exact BK168.out) hb)
               have n3_ := Aside0.mk (below_step (by repeat (first | (with_reducible first | exact HB.out | apply below_alloc | apply pw_below_drewN | apply below_drew1 | refine below_set ?_ GE166.out | refine below_set ?_ GE167.out | refine below_set ?_ GE168.out) | exact HB.out)) hb)
               clear BK166
               clear BK167
               clear BK168
               clear HB
               have BK166 := n0_
               have BK167 := n1_
               have BK168 := n2_
               have HB := n3_
               clear n0_ n1_ n2_ n3_
               (try clear hb)
               (try clear hb2)
               (try clear hk)
               (try clear hi)
               refine hK.out _ _ ⟨BK168.out, BK166.out, BK167.out⟩ (fun hHeld => ?_)
               clear hK K
               refine norm_ (a' := ?_) ?_ ?_
               rotate_left
               ·show Act.put _ (some 68) _ = _
                simp only [Act.put, List.setIfInBounds_toArray, List.set_cons_zero, List.set_cons_succ, i64_w, i32_w]
                rfl
               refine one_ (i := 13) (N := some 70) #[true, true, true, true, true, true, true, true, true, true, true, true, true, true, false, false, false] rfl rfl (one_of HT_.out (by kernel_rfl)) (by decide) (fun K hK => ?_)
               refine goes_ Try.func60 (by kernel_rfl) rfl #[.agg (Ar.cells .u64 4 t172), .agg (Ar.cells .u64 4 [0, IntKind.u64.wrap (x5_1 + 1), 0, 0])] (by rfl) rfl rfl (by (try simp only [List.map_toArray, List.map_cons, List.map_nil]); first | done | rfl | (simp only [List.length_drop, List.length_take]; rfl)) ?_
               with_reducible refine (drawlotlaw04_mul.calls k2 t172 [0, IntKind.u64.wrap (x5_1 + 1), 0, 0] t173 _ A15.out).mono ?_
               rintro e w56 ⟨rfl, hb⟩
               refine ⟨_, rfl, ?_⟩
               have n0_ := Aside0.mk (blk_below (g := gb166) (o := .cells (Ar.cells .u64 4 [IntKind.u64.wrap (t165), x5_1, 0, 0]) 67 (0, 0)) (by (with_reducible repeat (first | refine blk_drewN ?_ _ | refine blk_drew ?_ | refine blk_alloc ?_ _)); exact BK166.out) hb)
               have n1_ := Aside0.mk (blk_below (g := gb167) (o := .cells (Ar.cells .u64 4 [0, IntKind.u64.wrap (x5_1 + 1), 0, 0]) 67 (0, 0)) (by (with_reducible repeat (first | refine blk_drewN ?_ _ | refine blk_drew ?_ | refine blk_alloc ?_ _)); exact BK167.out) hb)
               have n2_ := Aside0.mk (blk_below (g := gb168) (o := .cells (Ar.cells .u64 4 [0, 0, 0, t164]) 67 (0, 0)) (by (with_reducible repeat (first | refine blk_drewN ?_ _ | refine blk_drew ?_ | refine blk_alloc ?_ _)); exact BK168.out) hb)
               have n3_ := Aside0.mk (below_step (by repeat (first | (with_reducible first | exact HB.out | apply below_alloc | apply pw_below_drewN | apply below_drew1 | refine below_set ?_ GE166.out | refine below_set ?_ GE167.out | refine below_set ?_ GE168.out) | exact HB.out)) hb)
               clear BK166
               clear BK167
               clear BK168
               clear HB
               have BK166 := n0_
               have BK167 := n1_
               have BK168 := n2_
               have HB := n3_
               clear n0_ n1_ n2_ n3_
               (try clear hb)
               (try clear hb2)
               (try clear hk)
               (try clear hi)
               refine hK.out _ _ ⟨BK168.out, BK166.out, BK167.out⟩ (fun hHeld => ?_)
               clear hK K
               refine norm_ (a' := ?_) ?_ ?_
               rotate_left
               ·show Act.put _ (some 70) _ = _
                simp only [Act.put, List.setIfInBounds_toArray, List.set_cons_zero, List.set_cons_succ, i64_w, i32_w]
                rfl
               refine one_ (i := 14) (N := some 71) #[true, true, true, true, true, true, true, true, true, true, true, true, true, true, true, false, false] rfl rfl (one_of HT_.out (by kernel_rfl)) (by decide) (fun K hK => ?_)
               refine goes_ Try.func59 (by kernel_rfl) rfl #[.agg (Ar.cells .u64 4 [0, 0, 0, t164]), .agg (Ar.cells .u64 4 t173)] (by rfl) rfl rfl (by (try simp only [List.map_toArray, List.map_cons, List.map_nil]); first | done | rfl | (simp only [List.length_drop, List.length_take]; rfl)) ?_
               with_reducible refine (drawlotlaw04_less.calls k2 [0, 0, 0, t164] t173 true _ A16.out).mono ?_
               rintro e w57 ⟨rfl, hb⟩
               refine ⟨_, rfl, ?_⟩
               have n0_ := Aside0.mk (blk_below (g := gb166) (o := .cells (Ar.cells .u64 4 [IntKind.u64.wrap (t165), x5_1, 0, 0]) 67 (0, 0)) (by (with_reducible repeat (first | refine blk_drewN ?_ _ | refine blk_drew ?_ | refine blk_alloc ?_ _)); exact BK166.out) hb)
               have n1_ := Aside0.mk (blk_below (g := gb167) (o := .cells (Ar.cells .u64 4 [0, IntKind.u64.wrap (x5_1 + 1), 0, 0]) 67 (0, 0)) (by (with_reducible repeat (first | refine blk_drewN ?_ _ | refine blk_drew ?_ | refine blk_alloc ?_ _)); exact BK167.out) hb)
               have n2_ := Aside0.mk (blk_below (g := gb168) (o := .cells (Ar.cells .u64 4 [0, 0, 0, t164]) 67 (0, 0)) (by (with_reducible repeat (first | refine blk_drewN ?_ _ | refine blk_drew ?_ | refine blk_alloc ?_ _)); exact BK168.out) hb)
               have n3_ := Aside0.mk (below_step (by repeat (first | (with_reducible first | exact HB.out | apply below_alloc | apply pw_below_drewN | apply below_drew1 | refine below_set ?_ GE166.out | refine below_set ?_ GE167.out | refine below_set ?_ GE168.out) | exact HB.out)) hb)
               clear BK166
               clear BK167
               clear BK168
               clear HB
               have BK166 := n0_
               have BK167 := n1_
               have BK168 := n2_
               have HB := n3_
               clear n0_ n1_ n2_ n3_
               (try clear hb)
               (try clear hb2)
               (try clear hk)
               (try clear hi)
               refine hK.out _ _ ⟨BK168.out, BK166.out, BK167.out⟩ (fun hHeld => ?_)
               clear hK K
               refine norm_ (a' := ?_) ?_ ?_
               rotate_left
               ·show Act.put _ (some 71) _ = _
                simp only [Act.put, List.setIfInBounds_toArray, List.set_cons_zero, List.set_cons_succ, i64_w, i32_w]
                rfl
               refine pure_ (i := 15) (N := some 72) (v := ?_) (a' := ?_) #[true, true, true, true, true, true, true, true, true, true, true, true, true, true, true, true, false] rfl rfl (any_of HT_.out (by kernel_rfl)) (fun _ _ _ h => h) (Or.inl ⟨by rfl, ?_⟩) ?_ ?_
               rotate_left
               ·intro w'
                go_simp
                with_reducible rfl
               rotate_left
               ·simp only [Act.put, List.setIfInBounds_toArray, List.set_cons_zero, List.set_cons_succ, i64_w, i32_w]
                rfl
               refine pure_ (i := 16) (N := some 73) (v := ?_) (a' := ?_) #[true, true, true, true, true, true, true, true, true, true, true, true, true, true, true, true, true] rfl rfl (any_of HT_.out (by kernel_rfl)) (fun _ _ _ h => h) (Or.inl ⟨by rfl, ?_⟩) ?_ ?_
               rotate_left
               ·intro w'
                go_simp
                with_reducible rfl
               rotate_left
               ·simp only [Act.put, List.setIfInBounds_toArray, List.set_cons_zero, List.set_cons_succ, i64_w, i32_w]
                rfl
               refine done_ (done_of HT_.out (by kernel_rfl)) ?_
               try go_wp2_with (first | ((with_reducible refine gate_callee (f := 61) rfl ?_); refine goesL_ (some 76) rfl rfl Try.func61 (by kernel_rfl) rfl #[] rfl (by (try simp only [List.map_toArray, List.map_cons, List.map_nil]); first | done | rfl | (simp only [List.length_drop, List.length_take]; rfl)) ?_; (with_reducible refine (comp_Start.calls  t175 _ A34.out).mono ?_); rintro e w58 ⟨rfl, hb⟩; refine ⟨_, rfl, ?_⟩; have n0_ := Aside0.mk (blk_below (g := gb166) (o := .cells (Ar.cells .u64 4 [IntKind.u64.wrap (t165), x5_1, 0, 0]) 67 (0, 0)) (by (with_reducible repeat (first | refine blk_drewN ?_ _ | refine blk_drew ?_ | refine blk_alloc ?_ _)); exact BK166.out) hb); have n1_ := Aside0.mk (blk_below (g := gb167) (o := .cells (Ar.cells .u64 4 [0, IntKind.u64.wrap (x5_1 + 1), 0, 0]) 67 (0, 0)) (by (with_reducible repeat (first | refine blk_drewN ?_ _ | refine blk_drew ?_ | refine blk_alloc ?_ _)); exact BK167.out) hb); have n2_ := Aside0.mk (blk_below (g := gb168) (o := .cells (Ar.cells .u64 4 [0, 0, 0, t164]) 67 (0, 0)) (by (with_reducible repeat (first | refine blk_drewN ?_ _ | refine blk_drew ?_ | refine blk_alloc ?_ _)); exact BK168.out) hb); have n3_ := Aside0.mk (below_step (by repeat (first | (with_reducible first | exact HB.out | apply below_alloc | apply pw_below_drewN | apply below_drew1 | refine below_set ?_ GE166.out | refine below_set ?_ GE167.out | refine below_set ?_ GE168.out) | exact HB.out)) hb); clear BK166; clear BK167; clear BK168; clear HB; have BK166 := n0_; have BK167 := n1_; have BK168 := n2_; have HB := n3_; clear n0_ n1_ n2_ n3_; (try clear hb); (try clear hb2); (try clear hk); (try clear hi)) | ((with_reducible refine gate_dst (N := 78) rfl ?_); (try (refine gate_guard (by rfl) ?_; dsimp only)); refine Ar.vidx_event rfl (D := 78) rfl (T := 60) rfl Try.underlying60 (by kernel_rfl) Try.underlying22 (k := .u32) (n := 8) (l := t175) (by first | rfl | (go_simp; done) | (go_simp; rfl)) (j := (ji35)) (by first | rfl | (go_simp; done) | (go_simp; rfl)) (of_decide_eq_true (by first | (with_reducible assumption) | assumption)) (of_decide_eq_true (by first | (with_reducible assumption) | assumption)) ?_) | ((with_reducible refine gate_dst (N := 81) rfl ?_); (try (refine gate_guard (by rfl) ?_; dsimp only)); refine Ar.build_event rfl (D := 81) rfl (T := 67) rfl (k := .u64) (n := 4) (l := [IntKind.u64.wrap (Ar.get 8 t175 (ji35)), x6_2, 0, 0]) Try.underlying67 (by kernel_rfl) (by kernel_rfl) [(0, IntKind.u64.wrap (Ar.get 8 t175 (ji35))), (1, x6_2)] (by rfl) (by rfl) (by rfl) ?_) | ((with_reducible refine gate_store (t := 67) (p := 7) rfl ?_); refine Ar.store_all_event rfl rfl rfl Try.underlying67 (by kernel_rfl) (g := gb166) rfl (z := [IntKind.u64.wrap (Ar.get 8 t175 (ji35)), x6_2, 0, 0]) (by first | rfl | (go_simp; done) | (go_simp; rfl)) (by (with_reducible repeat (first | refine blk_drewN ?_ _ | refine blk_drew ?_ | refine blk_alloc ?_ _)); exact BK166.out) ?_; intro w59 hbk_ hg; have n0_ := Aside0.mk (blk_grown (g := gb167) (o := .cells (Ar.cells .u64 4 [0, IntKind.u64.wrap (x5_1 + 1), 0, 0]) 67 (0, 0)) (by (with_reducible repeat (first | refine blk_drewN ?_ _ | refine blk_drew ?_ | refine blk_alloc ?_ _)); exact BK167.out) hg (fun e_ => NB167_166.out (Option.some.inj e_))); have n1_ := Aside0.mk (blk_grown (g := gb168) (o := .cells (Ar.cells .u64 4 [0, 0, 0, t164]) 67 (0, 0)) (by (with_reducible repeat (first | refine blk_drewN ?_ _ | refine blk_drew ?_ | refine blk_alloc ?_ _)); exact BK168.out) hg (fun e_ => NB168_166.out (Option.some.inj e_))); have n2_ := Aside0.mk (hbk_); have n3_ := Aside0.mk (Below.grown (by repeat (first | (with_reducible first | exact HB.out | apply below_alloc | apply pw_below_drewN | apply below_drew1 | refine below_set ?_ GE166.out | refine below_set ?_ GE167.out | refine below_set ?_ GE168.out) | exact HB.out)) hg ((below_size (by repeat (first | (with_reducible first | exact HB.out | apply below_alloc | apply pw_below_drewN | apply below_drew1 | refine below_set ?_ GE166.out | refine below_set ?_ GE167.out | refine below_set ?_ GE168.out) | exact HB.out)))) (fun _ e_ => by cases e_; exact GE166.out)); clear BK167; clear BK168; clear BK166; clear HB; have BK167 := n0_; have BK168 := n1_; have BK166 := n2_; have HB := n3_; clear n0_ n1_ n2_ n3_; clear hbk_ hg) | ((with_reducible refine gate_dst (N := 82) rfl ?_); (try (refine gate_guard (by rfl) ?_; dsimp only)); refine Ar.idx_event rfl (D := 82) rfl (T := 67) (n := 4) rfl Try.underlying67 (by kernel_rfl) (g := gb166) rfl (j := 0) (by first | rfl | (go_simp; done) | (go_simp; rfl)) (by decide) (by decide) ?_) | ((with_reducible refine gate_dst (N := 83) rfl ?_); (try (refine gate_guard (by rfl) ?_; dsimp only)); refine Ar.get_event rfl (D := 83) rfl (E := 26) rfl Try.underlying26 (g := gb166) (j := 0) rfl (by (with_reducible repeat (first | refine blk_drewN ?_ _ | refine blk_drew ?_ | refine blk_alloc ?_ _)); exact BK166.out) (by decide) (by decide) ?_) | ((with_reducible refine gate_dst (N := 86) rfl ?_); (try (refine gate_guard (by rfl) ?_; dsimp only)); refine Ar.build_event rfl (D := 86) rfl (T := 67) rfl (k := .u64) (n := 4) (l := [IntKind.u64.wrap ((Ar.get 4 [IntKind.u64.wrap (Ar.get 8 t175 (ji35)), x6_2, 0, 0] 0) + 1), x6_2, 0, 0]) Try.underlying67 (by kernel_rfl) (by kernel_rfl) [(0, IntKind.u64.wrap ((Ar.get 4 [IntKind.u64.wrap (Ar.get 8 t175 (ji35)), x6_2, 0, 0] 0) + 1)), (1, x6_2)] (by rfl) (by rfl) (by rfl) ?_) | ((with_reducible refine gate_store (t := 67) (p := 8) rfl ?_); refine Ar.store_all_event rfl rfl rfl Try.underlying67 (by kernel_rfl) (g := gb167) rfl (z := [IntKind.u64.wrap ((Ar.get 4 [IntKind.u64.wrap (Ar.get 8 t175 (ji35)), x6_2, 0, 0] 0) + 1), x6_2, 0, 0]) (by first | rfl | (go_simp; done) | (go_simp; rfl)) (by (with_reducible repeat (first | refine blk_drewN ?_ _ | refine blk_drew ?_ | refine blk_alloc ?_ _)); exact BK167.out) ?_; intro w60 hbk_ hg; have n0_ := Aside0.mk (blk_grown (g := gb166) (o := .cells (Ar.cells .u64 4 [IntKind.u64.wrap (Ar.get 8 t175 (ji35)), x6_2, 0, 0]) 67 (0, 0)) (by (with_reducible repeat (first | refine blk_drewN ?_ _ | refine blk_drew ?_ | refine blk_alloc ?_ _)); exact BK166.out) hg (fun e_ => NB166_167.out (Option.some.inj e_))); have n1_ := Aside0.mk (blk_grown (g := gb168) (o := .cells (Ar.cells .u64 4 [0, 0, 0, t164]) 67 (0, 0)) (by (with_reducible repeat (first | refine blk_drewN ?_ _ | refine blk_drew ?_ | refine blk_alloc ?_ _)); exact BK168.out) hg (fun e_ => NB168_167.out (Option.some.inj e_))); have n2_ := Aside0.mk (hbk_); have n3_ := Aside0.mk (Below.grown (by repeat (first | (with_reducible first | exact HB.out | apply below_alloc | apply pw_below_drewN | apply below_drew1 | refine below_set ?_ GE166.out | refine below_set ?_ GE167.out | refine below_set ?_ GE168.out) | exact HB.out)) hg ((below_size (by repeat (first | (with_reducible first | exact HB.out | apply below_alloc | apply pw_below_drewN | apply below_drew1 | refine below_set ?_ GE166.out | refine below_set ?_ GE167.out | refine below_set ?_ GE168.out) | exact HB.out)))) (fun _ e_ => by cases e_; exact GE167.out)); clear BK166; clear BK168; clear BK167; clear HB; have BK166 := n0_; have BK168 := n1_; have BK167 := n2_; have HB := n3_; clear n0_ n1_ n2_ n3_; clear hbk_ hg) | ((with_reducible refine gate_dst (N := 88) rfl ?_); (try (refine gate_guard (by rfl) ?_; dsimp only)); refine Ar.build_event rfl (D := 88) rfl (T := 67) rfl (k := .u64) (n := 4) (l := [0, 0, t164, 0]) Try.underlying67 (by kernel_rfl) (by kernel_rfl) [(0, 0), (1, 0), (2, t164)] (by rfl) (by rfl) (by rfl) ?_) | ((with_reducible refine gate_dst (N := 10) rfl ?_); (try (refine gate_guard (by rfl) ?_; dsimp only)); refine box_event ?hg (N := 10) ?hd (cs := (Ar.cells .u64 4 (List.replicate 4 0))) (t := 67) ?hr ?_; (case hd => rfl); (case hg => rfl); (case hr => first | exact Ar.box_run rfl rfl | exact Ar.alloc_run rfl (by kernel_rfl) | (go_simp; done) | (go_simp; rfl)); intro gb176 hg w61 hbox hb; have n0_ := Aside0.mk (blk_below (g := gb166) (o := .cells (Ar.cells .u64 4 [IntKind.u64.wrap (Ar.get 8 t175 (ji35)), x6_2, 0, 0]) 67 (0, 0)) (by (with_reducible repeat (first | refine blk_drewN ?_ _ | refine blk_drew ?_ | refine blk_alloc ?_ _)); exact BK166.out) hb); have n1_ := Aside0.mk (blk_below (g := gb167) (o := .cells (Ar.cells .u64 4 [IntKind.u64.wrap ((Ar.get 4 [IntKind.u64.wrap (Ar.get 8 t175 (ji35)), x6_2, 0, 0] 0) + 1), x6_2, 0, 0]) 67 (0, 0)) (by (with_reducible repeat (first | refine blk_drewN ?_ _ | refine blk_drew ?_ | refine blk_alloc ?_ _)); exact BK167.out) hb); have n2_ := Aside0.mk (blk_below (g := gb168) (o := .cells (Ar.cells .u64 4 [0, 0, 0, t164]) 67 (0, 0)) (by (with_reducible repeat (first | refine blk_drewN ?_ _ | refine blk_drew ?_ | refine blk_alloc ?_ _)); exact BK168.out) hb); have n3_ := Aside0.mk (below_step (by repeat (first | (with_reducible first | exact HB.out | apply below_alloc | apply pw_below_drewN | apply below_drew1 | refine below_set ?_ GE166.out | refine below_set ?_ GE167.out | refine below_set ?_ GE168.out) | exact HB.out)) hb); have n4_ := Aside0.mk (hbox); have n5_ := Aside0.mk ((by rw [hg]; exact (below_size (by repeat (first | (with_reducible first | exact HB.out | apply below_alloc | apply pw_below_drewN | apply below_drew1 | refine below_set ?_ GE166.out | refine below_set ?_ GE167.out | refine below_set ?_ GE168.out) | exact HB.out))) : w.heap.size ≤ gb176)); have n6_ := Aside0.mk ((by rw [hg]; exact (below_size (by repeat (first | (with_reducible first | exact HB.out | apply below_alloc | apply pw_below_drewN | apply below_drew1 | refine below_set ?_ GE166.out | refine below_set ?_ GE167.out | refine below_set ?_ GE168.out) | exact HB.out))) : w.heap.size ≤ gb176)); have n7_ := Aside0.mk ((by rw [hg]; exact Nat.ne_of_lt (blk_lt (g := gb166) (o := .cells (Ar.cells .u64 4 [IntKind.u64.wrap (Ar.get 8 t175 (ji35)), x6_2, 0, 0]) 67 (0, 0)) (by (with_reducible repeat (first | refine blk_drewN ?_ _ | refine blk_drew ?_ | refine blk_alloc ?_ _)); exact BK166.out)) : gb166 ≠ gb176)); have n8_ := Aside0.mk ((by rw [hg]; exact Nat.ne_of_gt (blk_lt (g := gb166) (o := .cells (Ar.cells .u64 4 [IntKind.u64.wrap (Ar.get 8 t175 (ji35)), x6_2, 0, 0]) 67 (0, 0)) (by (with_reducible repeat (first | refine blk_drewN ?_ _ | refine blk_drew ?_ | refine blk_alloc ?_ _)); exact BK166.out)) : gb176 ≠ gb166)); have n9_ := Aside0.mk ((by rw [hg]; exact Nat.ne_of_lt (blk_lt (g := gb167) (o := .cells (Ar.cells .u64 4 [IntKind.u64.wrap ((Ar.get 4 [IntKind.u64.wrap (Ar.get 8 t175 (ji35)), x6_2, 0, 0] 0) + 1), x6_2, 0, 0]) 67 (0, 0)) (by (with_reducible repeat (first | refine blk_drewN ?_ _ | refine blk_drew ?_ | refine blk_alloc ?_ _)); exact BK167.out)) : gb167 ≠ gb176)); have n10_ := Aside0.mk ((by rw [hg]; exact Nat.ne_of_gt (blk_lt (g := gb167) (o := .cells (Ar.cells .u64 4 [IntKind.u64.wrap ((Ar.get 4 [IntKind.u64.wrap (Ar.get 8 t175 (ji35)), x6_2, 0, 0] 0) + 1), x6_2, 0, 0]) 67 (0, 0)) (by (with_reducible repeat (first | refine blk_drewN ?_ _ | refine blk_drew ?_ | refine blk_alloc ?_ _)); exact BK167.out)) : gb176 ≠ gb167)); have n11_ := Aside0.mk ((by rw [hg]; exact Nat.ne_of_lt (blk_lt (g := gb168) (o := .cells (Ar.cells .u64 4 [0, 0, 0, t164]) 67 (0, 0)) (by (with_reducible repeat (first | refine blk_drewN ?_ _ | refine blk_drew ?_ | refine blk_alloc ?_ _)); exact BK168.out)) : gb168 ≠ gb176)); have n12_ := Aside0.mk ((by rw [hg]; exact Nat.ne_of_gt (blk_lt (g := gb168) (o := .cells (Ar.cells .u64 4 [0, 0, 0, t164]) 67 (0, 0)) (by (with_reducible repeat (first | refine blk_drewN ?_ _ | refine blk_drew ?_ | refine blk_alloc ?_ _)); exact BK168.out)) : gb176 ≠ gb168)); clear BK166; clear BK167; clear BK168; clear HB; have BK166 := n0_; have BK167 := n1_; have BK168 := n2_; have HB := n3_; have BK176 := n4_; have GW176 := n5_; have GE176 := n6_; have NB166_176 := n7_; have NB176_166 := n8_; have NB167_176 := n9_; have NB176_167 := n10_; have NB168_176 := n11_; have NB176_168 := n12_; clear n0_ n1_ n2_ n3_ n4_ n5_ n6_ n7_ n8_ n9_ n10_ n11_ n12_; clear hb hbox hg) | ((with_reducible refine gate_store (t := 67) (p := 10) rfl ?_); refine Ar.store_all_event rfl rfl rfl Try.underlying67 (by kernel_rfl) (g := gb176) rfl (z := [0, 0, t164, 0]) (by first | rfl | (go_simp; done) | (go_simp; rfl)) (by (with_reducible repeat (first | refine blk_drewN ?_ _ | refine blk_drew ?_ | refine blk_alloc ?_ _)); exact BK176.out) ?_; intro w62 hbk_ hg; have n0_ := Aside0.mk (blk_grown (g := gb166) (o := .cells (Ar.cells .u64 4 [IntKind.u64.wrap (Ar.get 8 t175 (ji35)), x6_2, 0, 0]) 67 (0, 0)) (by (with_reducible repeat (first | refine blk_drewN ?_ _ | refine blk_drew ?_ | refine blk_alloc ?_ _)); exact BK166.out) hg (fun e_ => NB166_176.out (Option.some.inj e_))); have n1_ := Aside0.mk (blk_grown (g := gb167) (o := .cells (Ar.cells .u64 4 [IntKind.u64.wrap ((Ar.get 4 [IntKind.u64.wrap (Ar.get 8 t175 (ji35)), x6_2, 0, 0] 0) + 1), x6_2, 0, 0]) 67 (0, 0)) (by (with_reducible repeat (first | refine blk_drewN ?_ _ | refine blk_drew ?_ | refine blk_alloc ?_ _)); exact BK167.out) hg (fun e_ => NB167_176.out (Option.some.inj e_))); have n2_ := Aside0.mk (blk_grown (g := gb168) (o := .cells (Ar.cells .u64 4 [0, 0, 0, t164]) 67 (0, 0)) (by (with_reducible repeat (first | refine blk_drewN ?_ _ | refine blk_drew ?_ | refine blk_alloc ?_ _)); exact BK168.out) hg (fun e_ => NB168_176.out (Option.some.inj e_))); have n3_ := Aside0.mk (hbk_); have n4_ := Aside0.mk (Below.grown (by repeat (first | (with_reducible first | exact HB.out | apply below_alloc | apply pw_below_drewN | apply below_drew1 | refine below_set ?_ GE166.out | refine below_set ?_ GE167.out | refine below_set ?_ GE168.out | refine below_set ?_ GE176.out) | exact HB.out)) hg ((below_size (by repeat (first | (with_reducible first | exact HB.out | apply below_alloc | apply pw_below_drewN | apply below_drew1 | refine below_set ?_ GE166.out | refine below_set ?_ GE167.out | refine below_set ?_ GE168.out | refine below_set ?_ GE176.out) | exact HB.out)))) (fun _ e_ => by cases e_; exact GE176.out)); clear BK166; clear BK167; clear BK168; clear BK176; clear HB; have BK166 := n0_; have BK167 := n1_; have BK168 := n2_; have BK176 := n3_; have HB := n4_; clear n0_ n1_ n2_ n3_ n4_; clear hbk_ hg))
               have n0_ := Aside0.mk (blk_drew BK166.out)
               have n1_ := Aside0.mk (blk_drew BK167.out)
               have n2_ := Aside0.mk (blk_drew BK168.out)
               have n3_ := Aside0.mk (blk_drew BK176.out)
               have n4_ := Aside0.mk (below_drew1 HB.out)
               clear BK166
               clear BK167
               clear BK168
               clear BK176
               clear HB
               have BK166 := n0_
               have BK167 := n1_
               have BK168 := n2_
               have BK176 := n3_
               have HB := n4_
               clear n0_ n1_ n2_ n3_ n4_
               refine start_ (n := 14) (S := fun w' => w'.heap[gb176]? = some (.cells (Ar.cells .u64 4 [0, 0, t164, 0]) 67 (0, 0)) ∧ w'.heap[gb166]? = some (.cells (Ar.cells .u64 4 [IntKind.u64.wrap (Ar.get 8 t175 (ji35)), x6_2, 0, 0]) 67 (0, 0)) ∧ w'.heap[gb167]? = some (.cells (Ar.cells .u64 4 [IntKind.u64.wrap ((Ar.get 4 [IntKind.u64.wrap (Ar.get 8 t175 (ji35)), x6_2, 0, 0] 0) + 1), x6_2, 0, 0]) 67 (0, 0))) (ds := []) #[false, false, false, false, false, false, false, false, false, false, false, false, false, false] (by kernel_rfl) rfl rfl ⟨BK176.out, BK166.out, BK167.out⟩ (fun hHeld => ?_); refine with_tabW drawlotlaw04_CompRoots.tab22 drawlotlaw04_CompRoots.bits22 (fun HT_ HW_ => ?_)
               generalize w62.drew = w63 at BK166 BK167 BK168 BK176 HB hHeld ⊢
               refine take_ (i := 0) (N := some 89) (v := ?_) (a' := ?_) #[true, false, false, false, false, false, false, false, false, false, false, false, false, false] rfl rfl (take_ofW HT_.out HW_.out (by kernel_rfl)) (fun _ _ _ h => h) (Or.inl ⟨by rfl, ?_⟩) hHeld ?_ ?_
               rotate_left
               ·rintro w' ⟨s0, s1, s2⟩
                first | (refine (Ar.load_run rfl Try.underlying67 (by kernel_rfl) rfl (by assumption)).trans ?_; with_reducible rfl) | (go_simp; with_reducible rfl)
               rotate_left
               ·simp only [Act.put, List.setIfInBounds_toArray, List.set_cons_zero, List.set_cons_succ, i64_w, i32_w]
                rfl
               refine take_ (i := 1) (N := some 90) (v := ?_) (a' := ?_) #[true, true, false, false, false, false, false, false, false, false, false, false, false, false] rfl rfl (take_ofW HT_.out HW_.out (by kernel_rfl)) (fun _ _ _ h => h) (Or.inl ⟨by rfl, ?_⟩) hHeld ?_ ?_
               rotate_left
               ·rintro w' ⟨s0, s1, s2⟩
                first | (refine (Ar.load_run rfl Try.underlying67 (by kernel_rfl) rfl (by assumption)).trans ?_; with_reducible rfl) | (go_simp; with_reducible rfl)
               rotate_left
               ·simp only [Act.put, List.setIfInBounds_toArray, List.set_cons_zero, List.set_cons_succ, i64_w, i32_w]
                rfl
               refine take_ (i := 2) (N := some 91) (v := ?_) (a' := ?_) #[true, true, true, false, false, false, false, false, false, false, false, false, false, false] rfl rfl (take_ofW HT_.out HW_.out (by kernel_rfl)) (fun _ _ _ h => h) (Or.inl ⟨by rfl, ?_⟩) hHeld ?_ ?_
               rotate_left
               ·rintro w' ⟨s0, s1, s2⟩
                first | (refine (Ar.load_run rfl Try.underlying67 (by kernel_rfl) rfl (by assumption)).trans ?_; with_reducible rfl) | (go_simp; with_reducible rfl)
               rotate_left
               ·simp only [Act.put, List.setIfInBounds_toArray, List.set_cons_zero, List.set_cons_succ, i64_w, i32_w]
                rfl
               refine one_ (i := 3) (N := some 92) #[true, true, true, true, false, false, false, false, false, false, false, false, false, false] rfl rfl (one_of HT_.out (by kernel_rfl)) (by decide) (fun K hK => ?_)
               refine goes_ Try.func60 (by kernel_rfl) rfl #[.agg (Ar.cells .u64 4 [IntKind.u64.wrap (Ar.get 8 t175 (ji35)), x6_2, 0, 0]), .agg (Ar.cells .u64 4 [IntKind.u64.wrap (Ar.get 8 t175 (ji35)), x6_2, 0, 0])] (by rfl) rfl rfl (by (try simp only [List.map_toArray, List.map_cons, List.map_nil]); first | done | (simp only [hji35]; rfl) | rfl | (simp only [List.length_drop, List.length_take]; rfl)) ?_
               with_reducible refine (drawlotlaw04_mul.calls k2 [IntKind.u64.wrap (Ar.get 8 t175 (ji35)), x6_2, 0, 0] [IntKind.u64.wrap (Ar.get 8 t175 (ji35)), x6_2, 0, 0] t177 _ A38.out).mono ?_
               rintro e w64 ⟨rfl, hb⟩
               refine ⟨_, rfl, ?_⟩
               have n0_ := Aside0.mk (blk_below (g := gb166) (o := .cells (Ar.cells .u64 4 [IntKind.u64.wrap (Ar.get 8 t175 (ji35)), x6_2, 0, 0]) 67 (0, 0)) (by (with_reducible repeat (first | refine blk_drewN ?_ _ | refine blk_drew ?_ | refine blk_alloc ?_ _)); exact BK166.out) hb)
               have n1_ := Aside0.mk (blk_below (g := gb167) (o := .cells (Ar.cells .u64 4 [IntKind.u64.wrap ((Ar.get 4 [IntKind.u64.wrap (Ar.get 8 t175 (ji35)), x6_2, 0, 0] 0) + 1), x6_2, 0, 0]) 67 (0, 0)) (by (with_reducible repeat (first | refine blk_drewN ?_ _ | refine blk_drew ?_ | refine blk_alloc ?_ _)); exact BK167.out) hb)
               have n2_ := Aside0.mk (blk_below (g := gb168) (o := .cells (Ar.cells .u64 4 [0, 0, 0, t164]) 67 (0, 0)) (by (with_reducible repeat (first | refine blk_drewN ?_ _ | refine blk_drew ?_ | refine blk_alloc ?_ _)); exact BK168.out) hb)
               have n3_ := Aside0.mk (blk_below (g := gb176) (o := .cells (Ar.cells .u64 4 [0, 0, t164, 0]) 67 (0, 0)) (by (with_reducible repeat (first | refine blk_drewN ?_ _ | refine blk_drew ?_ | refine blk_alloc ?_ _)); exact BK176.out) hb)
               have n4_ := Aside0.mk (below_step (by repeat (first | (with_reducible first | exact HB.out | apply below_alloc | apply pw_below_drewN | apply below_drew1 | refine below_set ?_ GE166.out | refine below_set ?_ GE167.out | refine below_set ?_ GE168.out | refine below_set ?_ GE176.out) | exact HB.out)) hb)
               clear BK166
               clear BK167
               clear BK168
               clear BK176
               clear HB
               have BK166 := n0_
               have BK167 := n1_
               have BK168 := n2_
               have BK176 := n3_
               have HB := n4_
               clear n0_ n1_ n2_ n3_ n4_
               (try clear hb)
               (try clear hb2)
               (try clear hk)
               (try clear hi)
               refine hK.out _ _ ⟨BK176.out, BK166.out, BK167.out⟩ (fun hHeld => ?_)
               clear hK K
               refine norm_ (a' := ?_) ?_ ?_
               rotate_left
               ·show Act.put _ (some 92) _ = _
                simp only [Act.put, List.setIfInBounds_toArray, List.set_cons_zero, List.set_cons_succ, i64_w, i32_w]
                rfl
               refine one_ (i := 4) (N := some 93) #[true, true, true, true, true, false, false, false, false, false, false, false, false, false] rfl rfl (one_of HT_.out (by kernel_rfl)) (by decide) (fun K hK => ?_)
               refine goes_ Try.func59 (by kernel_rfl) rfl #[.agg (Ar.cells .u64 4 [0, 0, t164, 0]), .agg (Ar.cells .u64 4 t177)] (by rfl) rfl rfl (by (try simp only [List.map_toArray, List.map_cons, List.map_nil]); first | done | rfl | (simp only [List.length_drop, List.length_take]; rfl)) ?_
               with_reducible refine (drawlotlaw04_less.calls k2 [0, 0, t164, 0] t177 false _ A39.out).mono ?_
               rintro e w65 ⟨rfl, hb⟩
               refine ⟨_, rfl, ?_⟩
               have n0_ := Aside0.mk (blk_below (g := gb166) (o := .cells (Ar.cells .u64 4 [IntKind.u64.wrap (Ar.get 8 t175 (ji35)), x6_2, 0, 0]) 67 (0, 0)) (by (with_reducible repeat (first | refine blk_drewN ?_ _ | refine blk_drew ?_ | refine blk_alloc ?_ _)); exact BK166.out) hb)
               have n1_ := Aside0.mk (blk_below (g := gb167) (o := .cells (Ar.cells .u64 4 [IntKind.u64.wrap ((Ar.get 4 [IntKind.u64.wrap (Ar.get 8 t175 (ji35)), x6_2, 0, 0] 0) + 1), x6_2, 0, 0]) 67 (0, 0)) (by (with_reducible repeat (first | refine blk_drewN ?_ _ | refine blk_drew ?_ | refine blk_alloc ?_ _)); exact BK167.out) hb)
               have n2_ := Aside0.mk (blk_below (g := gb168) (o := .cells (Ar.cells .u64 4 [0, 0, 0, t164]) 67 (0, 0)) (by (with_reducible repeat (first | refine blk_drewN ?_ _ | refine blk_drew ?_ | refine blk_alloc ?_ _)); exact BK168.out) hb)
               have n3_ := Aside0.mk (blk_below (g := gb176) (o := .cells (Ar.cells .u64 4 [0, 0, t164, 0]) 67 (0, 0)) (by (with_reducible repeat (first | refine blk_drewN ?_ _ | refine blk_drew ?_ | refine blk_alloc ?_ _)); exact BK176.out) hb)
               have n4_ := Aside0.mk (below_step (by repeat (first | (with_reducible first | exact HB.out | apply below_alloc | apply pw_below_drewN | apply below_drew1 | refine below_set ?_ GE166.out | refine below_set ?_ GE167.out | refine below_set ?_ GE168.out | refine below_set ?_ GE176.out) | exact HB.out)) hb)
               clear BK166
               clear BK167
               clear BK168
               clear BK176
               clear HB
               have BK166 := n0_
               have BK167 := n1_
               have BK168 := n2_
               have BK176 := n3_
               have HB := n4_
               clear n0_ n1_ n2_ n3_ n4_
               (try clear hb)
               (try clear hb2)
               (try clear hk)
               (try clear hi)
               refine hK.out _ _ ⟨BK176.out, BK166.out, BK167.out⟩ (fun hHeld => ?_)
               clear hK K
               refine norm_ (a' := ?_) ?_ ?_
               rotate_left
               ·show Act.put _ (some 93) _ = _
                simp only [Act.put, List.setIfInBounds_toArray, List.set_cons_zero, List.set_cons_succ, i64_w, i32_w]
                rfl
               refine pure_ (i := 5) (N := some 94) (v := ?_) (a' := ?_) #[true, true, true, true, true, true, false, false, false, false, false, false, false, false] rfl rfl (any_of HT_.out (by kernel_rfl)) (fun _ _ _ h => h) (Or.inl ⟨by rfl, ?_⟩) ?_ ?_
               rotate_left
               ·intro w'
                go_simp
                with_reducible rfl
               rotate_left
               ·simp only [Act.put, List.setIfInBounds_toArray, List.set_cons_zero, List.set_cons_succ, i64_w, i32_w]
                rfl
               refine pure_ (i := 6) (N := some 95) (v := ?_) (a' := ?_) #[true, true, true, true, true, true, true, false, false, false, false, false, false, false] rfl rfl (any_of HT_.out (by kernel_rfl)) (fun _ _ _ h => h) (Or.inl ⟨by rfl, ?_⟩) ?_ ?_
               rotate_left
               ·intro w'
                go_simp
                with_reducible rfl
               rotate_left
               ·simp only [Act.put, List.setIfInBounds_toArray, List.set_cons_zero, List.set_cons_succ, i64_w, i32_w]
                rfl
               refine take_ (i := 7) (N := some 96) (v := ?_) (a' := ?_) #[true, true, true, true, true, true, true, true, false, false, false, false, false, false] rfl rfl (take_ofW HT_.out HW_.out (by kernel_rfl)) (fun _ _ _ h => h) (Or.inl ⟨by rfl, ?_⟩) hHeld ?_ ?_
               rotate_left
               ·rintro w' ⟨s0, s1, s2⟩
                first | (refine (Ar.load_run rfl Try.underlying67 (by kernel_rfl) rfl (by assumption)).trans ?_; with_reducible rfl) | (go_simp; with_reducible rfl)
               rotate_left
               ·simp only [Act.put, List.setIfInBounds_toArray, List.set_cons_zero, List.set_cons_succ, i64_w, i32_w]
                rfl
               refine take_ (i := 8) (N := some 97) (v := ?_) (a' := ?_) #[true, true, true, true, true, true, true, true, true, false, false, false, false, false] rfl rfl (take_ofW HT_.out HW_.out (by kernel_rfl)) (fun _ _ _ h => h) (Or.inl ⟨by rfl, ?_⟩) hHeld ?_ ?_
               rotate_left
               ·rintro w' ⟨s0, s1, s2⟩
                first | (refine (Ar.load_run rfl Try.underlying67 (by kernel_rfl) rfl (by assumption)).trans ?_; with_reducible rfl) | (go_simp; with_reducible rfl)
               rotate_left
               ·simp only [Act.put, List.setIfInBounds_toArray, List.set_cons_zero, List.set_cons_succ, i64_w, i32_w]
                rfl
               refine take_ (i := 9) (N := some 98) (v := ?_) (a' := ?_) #[true, true, true, true, true, true, true, true, true, true, false, false, false, false] rfl rfl (take_ofW HT_.out HW_.out (by kernel_rfl)) (fun _ _ _ h => h) (Or.inl ⟨by rfl, ?_⟩) hHeld ?_ ?_
               rotate_left
               ·rintro w' ⟨s0, s1, s2⟩
                first | (refine (Ar.load_run rfl Try.underlying67 (by kernel_rfl) rfl (by assumption)).trans ?_; with_reducible rfl) | (go_simp; with_reducible rfl)
               rotate_left
               ·simp only [Act.put, List.setIfInBounds_toArray, List.set_cons_zero, List.set_cons_succ, i64_w, i32_w]
                rfl
               refine one_ (i := 10) (N := some 99) #[true, true, true, true, true, true, true, true, true, true, true, false, false, false] rfl rfl (one_of HT_.out (by kernel_rfl)) (by decide) (fun K hK => ?_)
               refine goes_ Try.func60 (by kernel_rfl) rfl #[.agg (Ar.cells .u64 4 [IntKind.u64.wrap ((Ar.get 4 [IntKind.u64.wrap (Ar.get 8 t175 (ji35)), x6_2, 0, 0] 0) + 1), x6_2, 0, 0]), .agg (Ar.cells .u64 4 [IntKind.u64.wrap ((Ar.get 4 [IntKind.u64.wrap (Ar.get 8 t175 (ji35)), x6_2, 0, 0] 0) + 1), x6_2, 0, 0])] (by rfl) rfl rfl (by (try simp only [List.map_toArray, List.map_cons, List.map_nil]); first | done | (simp only [hji35]; rfl) | rfl | (simp only [List.length_drop, List.length_take]; rfl)) ?_
               with_reducible refine (drawlotlaw04_mul.calls k2 [IntKind.u64.wrap ((Ar.get 4 [IntKind.u64.wrap (Ar.get 8 t175 (ji35)), x6_2, 0, 0] 0) + 1), x6_2, 0, 0] [IntKind.u64.wrap ((Ar.get 4 [IntKind.u64.wrap (Ar.get 8 t175 (ji35)), x6_2, 0, 0] 0) + 1), x6_2, 0, 0] t179 _ A41.out).mono ?_
               rintro e w66 ⟨rfl, hb⟩
               refine ⟨_, rfl, ?_⟩
               have n0_ := Aside0.mk (blk_below (g := gb166) (o := .cells (Ar.cells .u64 4 [IntKind.u64.wrap (Ar.get 8 t175 (ji35)), x6_2, 0, 0]) 67 (0, 0)) (by (with_reducible repeat (first | refine blk_drewN ?_ _ | refine blk_drew ?_ | refine blk_alloc ?_ _)); exact BK166.out) hb)
               have n1_ := Aside0.mk (blk_below (g := gb167) (o := .cells (Ar.cells .u64 4 [IntKind.u64.wrap ((Ar.get 4 [IntKind.u64.wrap (Ar.get 8 t175 (ji35)), x6_2, 0, 0] 0) + 1), x6_2, 0, 0]) 67 (0, 0)) (by (with_reducible repeat (first | refine blk_drewN ?_ _ | refine blk_drew ?_ | refine blk_alloc ?_ _)); exact BK167.out) hb)
               have n2_ := Aside0.mk (blk_below (g := gb168) (o := .cells (Ar.cells .u64 4 [0, 0, 0, t164]) 67 (0, 0)) (by (with_reducible repeat (first | refine blk_drewN ?_ _ | refine blk_drew ?_ | refine blk_alloc ?_ _)); exact BK168.out) hb)
               have n3_ := Aside0.mk (blk_below (g := gb176) (o := .cells (Ar.cells .u64 4 [0, 0, t164, 0]) 67 (0, 0)) (by (with_reducible repeat (first | refine blk_drewN ?_ _ | refine blk_drew ?_ | refine blk_alloc ?_ _)); exact BK176.out) hb)
               have n4_ := Aside0.mk (below_step (by repeat (first | (with_reducible first | exact HB.out | apply below_alloc | apply pw_below_drewN | apply below_drew1 | refine below_set ?_ GE166.out | refine below_set ?_ GE167.out | refine below_set ?_ GE168.out | refine below_set ?_ GE176.out) | exact HB.out)) hb)
               clear BK166
               clear BK167
               clear BK168
               clear BK176
               clear HB
               have BK166 := n0_
               have BK167 := n1_
               have BK168 := n2_
               have BK176 := n3_
               have HB := n4_
               clear n0_ n1_ n2_ n3_ n4_
               (try clear hb)
               (try clear hb2)
               (try clear hk)
               (try clear hi)
               refine hK.out _ _ ⟨BK176.out, BK166.out, BK167.out⟩ (fun hHeld => ?_)
               clear hK K
               refine norm_ (a' := ?_) ?_ ?_
               rotate_left
               ·show Act.put _ (some 99) _ = _
                simp only [Act.put, List.setIfInBounds_toArray, List.set_cons_zero, List.set_cons_succ, i64_w, i32_w]
                rfl
               refine one_ (i := 11) (N := some 100) #[true, true, true, true, true, true, true, true, true, true, true, true, false, false] rfl rfl (one_of HT_.out (by kernel_rfl)) (by decide) (fun K hK => ?_)
               refine goes_ Try.func59 (by kernel_rfl) rfl #[.agg (Ar.cells .u64 4 [0, 0, t164, 0]), .agg (Ar.cells .u64 4 t179)] (by rfl) rfl rfl (by (try simp only [List.map_toArray, List.map_cons, List.map_nil]); first | done | rfl | (simp only [List.length_drop, List.length_take]; rfl)) ?_
               with_reducible refine (drawlotlaw04_less.calls k2 [0, 0, t164, 0] t179 t180 _ A42.out).mono ?_
               rintro e w67 ⟨rfl, hb⟩
               refine ⟨_, rfl, ?_⟩
               have n0_ := Aside0.mk (blk_below (g := gb166) (o := .cells (Ar.cells .u64 4 [IntKind.u64.wrap (Ar.get 8 t175 (ji35)), x6_2, 0, 0]) 67 (0, 0)) (by (with_reducible repeat (first | refine blk_drewN ?_ _ | refine blk_drew ?_ | refine blk_alloc ?_ _)); exact BK166.out) hb)
               have n1_ := Aside0.mk (blk_below (g := gb167) (o := .cells (Ar.cells .u64 4 [IntKind.u64.wrap ((Ar.get 4 [IntKind.u64.wrap (Ar.get 8 t175 (ji35)), x6_2, 0, 0] 0) + 1), x6_2, 0, 0]) 67 (0, 0)) (by (with_reducible repeat (first | refine blk_drewN ?_ _ | refine blk_drew ?_ | refine blk_alloc ?_ _)); exact BK167.out) hb)
               have n2_ := Aside0.mk (blk_below (g := gb168) (o := .cells (Ar.cells .u64 4 [0, 0, 0, t164]) 67 (0, 0)) (by (with_reducible repeat (first | refine blk_drewN ?_ _ | refine blk_drew ?_ | refine blk_alloc ?_ _)); exact BK168.out) hb)
               have n3_ := Aside0.mk (blk_below (g := gb176) (o := .cells (Ar.cells .u64 4 [0, 0, t164, 0]) 67 (0, 0)) (by (with_reducible repeat (first | refine blk_drewN ?_ _ | refine blk_drew ?_ | refine blk_alloc ?_ _)); exact BK176.out) hb)
               have n4_ := Aside0.mk (below_step (by repeat (first | (with_reducible first | exact HB.out | apply below_alloc | apply pw_below_drewN | apply below_drew1 | refine below_set ?_ GE166.out | refine below_set ?_ GE167.out | refine below_set ?_ GE168.out | refine below_set ?_ GE176.out) | exact HB.out)) hb)
               clear BK166
               clear BK167
               clear BK168
               clear BK176
               clear HB
               have BK166 := n0_
               have BK167 := n1_
               have BK168 := n2_
               have BK176 := n3_
               have HB := n4_
               clear n0_ n1_ n2_ n3_ n4_
               (try clear hb)
               (try clear hb2)
               (try clear hk)
               (try clear hi)
               refine hK.out _ _ ⟨BK176.out, BK166.out, BK167.out⟩ (fun hHeld => ?_)
               clear hK K
               refine norm_ (a' := ?_) ?_ ?_
               rotate_left
               ·show Act.put _ (some 100) _ = _
                simp only [Act.put, List.setIfInBounds_toArray, List.set_cons_zero, List.set_cons_succ, i64_w, i32_w]
                rfl
               refine pure_ (i := 12) (N := some 101) (v := ?_) (a' := ?_) #[true, true, true, true, true, true, true, true, true, true, true, true, true, false] rfl rfl (any_of HT_.out (by kernel_rfl)) (fun _ _ _ h => h) (Or.inl ⟨by rfl, ?_⟩) ?_ ?_
               rotate_left
               ·intro w'
                go_simp
                with_reducible rfl
               rotate_left
               ·simp only [Act.put, List.setIfInBounds_toArray, List.set_cons_zero, List.set_cons_succ, i64_w, i32_w]
                rfl
               refine pure_ (i := 13) (N := some 2) (v := ?_) (a' := ?_) #[true, true, true, true, true, true, true, true, true, true, true, true, true, true] rfl rfl (any_of HT_.out (by kernel_rfl)) (fun _ _ _ h => h) (Or.inl ⟨by rfl, ?_⟩) ?_ ?_
               rotate_left
               ·intro w'
                go_simp
                with_reducible rfl
               rotate_left
               ·simp only [Act.put, List.setIfInBounds_toArray, List.set_cons_zero, List.set_cons_succ, i64_w, i32_w]
                rfl
               refine done_ (done_of HT_.out (by kernel_rfl)) ?_
               try go_wp2
               go_ret
               exact ⟨by first | rfl | (simp [errW_none, errW_some] <;> rfl) | (simp only [← hji35]; first | rfl | (simp [errW_none, errW_some] <;> rfl)) | (simp [*, errW_none, errW_some] <;> rfl), by repeat (first | (with_reducible first | exact HB.out | apply below_alloc | apply pw_below_drewN | apply below_drew1 | refine below_set ?_ GE166.out | refine below_set ?_ GE167.out | refine below_set ?_ GE168.out | refine below_set ?_ GE176.out) | exact HB.out)⟩
             ·rw [if_neg c37] at H
              exact absurd H (by simp)
            ·rw [if_neg c36] at H
             exact absurd H (by simp)
          ·replace c17 := Bool.eq_false_iff.mpr c17
           subst c17
           have H1 : (none) = some r := by rw [if_neg (show ¬ (false = true) by decide)] at H; exact H
           clear H
           have H := H1
           clear H1
           exact absurd H (by simp)
        ·rw [if_neg c9] at H
         have c9b0 : ((Ar.get 4 [IntKind.u64.wrap (t165), x5_1, 0, 0] 0) == 4294967295) = false := beq_eq_false_iff_ne.mpr c9
         have c9b1 : ((Ar.get 4 [IntKind.u64.wrap (t165), x5_1, 0, 0] 0) != 4294967295) = true := bne_iff_ne.mpr c9
         replace H := Option.bind_eq_some_iff.mp H
         obtain ⟨t182, A680, H⟩ := H
         replace H : ((drawlotlaw04_mul.f k2 t182 [IntKind.u64.wrap (t165), x5_1, 0, 0]).bind fun t183 => ((drawlotlaw04_less.f k2 [0, 0, 0, t164] t183).bind fun t184 => (if t184 = true then (none) else ((drawlotlaw04_mul.f k2 [IntKind.u64.wrap ((Ar.get 4 [IntKind.u64.wrap (t165), x5_1, 0, 0] 0) + 1), x5_1, 0, 0] [IntKind.u64.wrap ((Ar.get 4 [IntKind.u64.wrap (t165), x5_1, 0, 0] 0) + 1), x5_1, 0, 0]).bind fun t185 => ((drawlotlaw04_mul.f k2 t185 [IntKind.u64.wrap ((Ar.get 4 [IntKind.u64.wrap (t165), x5_1, 0, 0] 0) + 1), x5_1, 0, 0]).bind fun t186 => ((drawlotlaw04_less.f k2 [0, 0, 0, t164] t186).bind fun t187 => (if t187 = true then (if (wrap64 (Int.tmod a0 64)) > 7 then (some true) else ((comp_Start.f).bind fun t188 => (if 0 ≤ (wrap64 (Int.tmod a0 64)) then (if (wrap64 (Int.tmod a0 64)) < 8 then ((drawlotlaw04_mul.f k2 [IntKind.u64.wrap (Ar.get 8 t188 (wrap64 (Int.tmod a0 64))), x6_2, 0, 0] [IntKind.u64.wrap (Ar.get 8 t188 (wrap64 (Int.tmod a0 64))), x6_2, 0, 0]).bind fun t190 => ((drawlotlaw04_less.f k2 [0, 0, t164, 0] t190).bind fun t191 => (if t191 = true then (none) else ((drawlotlaw04_mul.f k2 [IntKind.u64.wrap ((Ar.get 4 [IntKind.u64.wrap (Ar.get 8 t188 (wrap64 (Int.tmod a0 64))), x6_2, 0, 0] 0) + 1), x6_2, 0, 0] [IntKind.u64.wrap ((Ar.get 4 [IntKind.u64.wrap (Ar.get 8 t188 (wrap64 (Int.tmod a0 64))), x6_2, 0, 0] 0) + 1), x6_2, 0, 0]).bind fun t192 => ((drawlotlaw04_less.f k2 [0, 0, t164, 0] t192).bind fun t193 => (some t193)))))) else (none)) else (none)))) else (none)))))))) = some r := H
         have A68 := Aside0.mk A680
         clear A680
         replace H := Option.bind_eq_some_iff.mp H
         obtain ⟨t183, A690, H⟩ := H
         replace H : ((drawlotlaw04_less.f k2 [0, 0, 0, t164] t183).bind fun t184 => (if t184 = true then (none) else ((drawlotlaw04_mul.f k2 [IntKind.u64.wrap ((Ar.get 4 [IntKind.u64.wrap (t165), x5_1, 0, 0] 0) + 1), x5_1, 0, 0] [IntKind.u64.wrap ((Ar.get 4 [IntKind.u64.wrap (t165), x5_1, 0, 0] 0) + 1), x5_1, 0, 0]).bind fun t185 => ((drawlotlaw04_mul.f k2 t185 [IntKind.u64.wrap ((Ar.get 4 [IntKind.u64.wrap (t165), x5_1, 0, 0] 0) + 1), x5_1, 0, 0]).bind fun t186 => ((drawlotlaw04_less.f k2 [0, 0, 0, t164] t186).bind fun t187 => (if t187 = true then (if (wrap64 (Int.tmod a0 64)) > 7 then (some true) else ((comp_Start.f).bind fun t188 => (if 0 ≤ (wrap64 (Int.tmod a0 64)) then (if (wrap64 (Int.tmod a0 64)) < 8 then ((drawlotlaw04_mul.f k2 [IntKind.u64.wrap (Ar.get 8 t188 (wrap64 (Int.tmod a0 64))), x6_2, 0, 0] [IntKind.u64.wrap (Ar.get 8 t188 (wrap64 (Int.tmod a0 64))), x6_2, 0, 0]).bind fun t190 => ((drawlotlaw04_less.f k2 [0, 0, t164, 0] t190).bind fun t191 => (if t191 = true then (none) else ((drawlotlaw04_mul.f k2 [IntKind.u64.wrap ((Ar.get 4 [IntKind.u64.wrap (Ar.get 8 t188 (wrap64 (Int.tmod a0 64))), x6_2, 0, 0] 0) + 1), x6_2, 0, 0] [IntKind.u64.wrap ((Ar.get 4 [IntKind.u64.wrap (Ar.get 8 t188 (wrap64 (Int.tmod a0 64))), x6_2, 0, 0] 0) + 1), x6_2, 0, 0]).bind fun t192 => ((drawlotlaw04_less.f k2 [0, 0, t164, 0] t192).bind fun t193 => (some t193)))))) else (none)) else (none)))) else (none))))))) = some r := H
         have A69 := Aside0.mk A690
         clear A690
         replace H := Option.bind_eq_some_iff.mp H
         obtain ⟨t184, A700, H⟩ := H
         replace H : (if t184 = true then (none) else ((drawlotlaw04_mul.f k2 [IntKind.u64.wrap ((Ar.get 4 [IntKind.u64.wrap (t165), x5_1, 0, 0] 0) + 1), x5_1, 0, 0] [IntKind.u64.wrap ((Ar.get 4 [IntKind.u64.wrap (t165), x5_1, 0, 0] 0) + 1), x5_1, 0, 0]).bind fun t185 => ((drawlotlaw04_mul.f k2 t185 [IntKind.u64.wrap ((Ar.get 4 [IntKind.u64.wrap (t165), x5_1, 0, 0] 0) + 1), x5_1, 0, 0]).bind fun t186 => ((drawlotlaw04_less.f k2 [0, 0, 0, t164] t186).bind fun t187 => (if t187 = true then (if (wrap64 (Int.tmod a0 64)) > 7 then (some true) else ((comp_Start.f).bind fun t188 => (if 0 ≤ (wrap64 (Int.tmod a0 64)) then (if (wrap64 (Int.tmod a0 64)) < 8 then ((drawlotlaw04_mul.f k2 [IntKind.u64.wrap (Ar.get 8 t188 (wrap64 (Int.tmod a0 64))), x6_2, 0, 0] [IntKind.u64.wrap (Ar.get 8 t188 (wrap64 (Int.tmod a0 64))), x6_2, 0, 0]).bind fun t190 => ((drawlotlaw04_less.f k2 [0, 0, t164, 0] t190).bind fun t191 => (if t191 = true then (none) else ((drawlotlaw04_mul.f k2 [IntKind.u64.wrap ((Ar.get 4 [IntKind.u64.wrap (Ar.get 8 t188 (wrap64 (Int.tmod a0 64))), x6_2, 0, 0] 0) + 1), x6_2, 0, 0] [IntKind.u64.wrap ((Ar.get 4 [IntKind.u64.wrap (Ar.get 8 t188 (wrap64 (Int.tmod a0 64))), x6_2, 0, 0] 0) + 1), x6_2, 0, 0]).bind fun t192 => ((drawlotlaw04_less.f k2 [0, 0, t164, 0] t192).bind fun t193 => (some t193)))))) else (none)) else (none)))) else (none)))))) = some r := H
         have A70 := Aside0.mk A700
         clear A700
         by_cases c71 : t184 = true
         ·subst c71
          have H1 : (none) = some r := by rw [if_pos rfl] at H; exact H
          clear H
          have H := H1
          clear H1
          exact absurd H (by simp)
         ·replace c71 := Bool.eq_false_iff.mpr c71
          subst c71
          have H1 : ((drawlotlaw04_mul.f k2 [IntKind.u64.wrap ((Ar.get 4 [IntKind.u64.wrap (t165), x5_1, 0, 0] 0) + 1), x5_1, 0, 0] [IntKind.u64.wrap ((Ar.get 4 [IntKind.u64.wrap (t165), x5_1, 0, 0] 0) + 1), x5_1, 0, 0]).bind fun t185 => ((drawlotlaw04_mul.f k2 t185 [IntKind.u64.wrap ((Ar.get 4 [IntKind.u64.wrap (t165), x5_1, 0, 0] 0) + 1), x5_1, 0, 0]).bind fun t186 => ((drawlotlaw04_less.f k2 [0, 0, 0, t164] t186).bind fun t187 => (if t187 = true then (if (wrap64 (Int.tmod a0 64)) > 7 then (some true) else ((comp_Start.f).bind fun t188 => (if 0 ≤ (wrap64 (Int.tmod a0 64)) then (if (wrap64 (Int.tmod a0 64)) < 8 then ((drawlotlaw04_mul.f k2 [IntKind.u64.wrap (Ar.get 8 t188 (wrap64 (Int.tmod a0 64))), x6_2, 0, 0] [IntKind.u64.wrap (Ar.get 8 t188 (wrap64 (Int.tmod a0 64))), x6_2, 0, 0]).bind fun t190 => ((drawlotlaw04_less.f k2 [0, 0, t164, 0] t190).bind fun t191 => (if t191 = true then (none) else ((drawlotlaw04_mul.f k2 [IntKind.u64.wrap ((Ar.get 4 [IntKind.u64.wrap (Ar.get 8 t188 (wrap64 (Int.tmod a0 64))), x6_2, 0, 0] 0) + 1), x6_2, 0, 0] [IntKind.u64.wrap ((Ar.get 4 [IntKind.u64.wrap (Ar.get 8 t188 (wrap64 (Int.tmod a0 64))), x6_2, 0, 0] 0) + 1), x6_2, 0, 0]).bind fun t192 => ((drawlotlaw04_less.f k2 [0, 0, t164, 0] t192).bind fun t193 => (some t193)))))) else (none)) else (none)))) else (none))))) = some r := by rw [if_neg (show ¬ (false = true) by decide)] at H; exact H
          clear H
          have H := H1
          clear H1
          replace H := Option.bind_eq_some_iff.mp H
          obtain ⟨t185, A720, H⟩ := H
          replace H : ((drawlotlaw04_mul.f k2 t185 [IntKind.u64.wrap ((Ar.get 4 [IntKind.u64.wrap (t165), x5_1, 0, 0] 0) + 1), x5_1, 0, 0]).bind fun t186 => ((drawlotlaw04_less.f k2 [0, 0, 0, t164] t186).bind fun t187 => (if t187 = true then (if (wrap64 (Int.tmod a0 64)) > 7 then (some true) else ((comp_Start.f).bind fun t188 => (if 0 ≤ (wrap64 (Int.tmod a0 64)) then (if (wrap64 (Int.tmod a0 64)) < 8 then ((drawlotlaw04_mul.f k2 [IntKind.u64.wrap (Ar.get 8 t188 (wrap64 (Int.tmod a0 64))), x6_2, 0, 0] [IntKind.u64.wrap (Ar.get 8 t188 (wrap64 (Int.tmod a0 64))), x6_2, 0, 0]).bind fun t190 => ((drawlotlaw04_less.f k2 [0, 0, t164, 0] t190).bind fun t191 => (if t191 = true then (none) else ((drawlotlaw04_mul.f k2 [IntKind.u64.wrap ((Ar.get 4 [IntKind.u64.wrap (Ar.get 8 t188 (wrap64 (Int.tmod a0 64))), x6_2, 0, 0] 0) + 1), x6_2, 0, 0] [IntKind.u64.wrap ((Ar.get 4 [IntKind.u64.wrap (Ar.get 8 t188 (wrap64 (Int.tmod a0 64))), x6_2, 0, 0] 0) + 1), x6_2, 0, 0]).bind fun t192 => ((drawlotlaw04_less.f k2 [0, 0, t164, 0] t192).bind fun t193 => (some t193)))))) else (none)) else (none)))) else (none)))) = some r := H
          have A72 := Aside0.mk A720
          clear A720
          replace H := Option.bind_eq_some_iff.mp H
          obtain ⟨t186, A730, H⟩ := H
          replace H : ((drawlotlaw04_less.f k2 [0, 0, 0, t164] t186).bind fun t187 => (if t187 = true then (if (wrap64 (Int.tmod a0 64)) > 7 then (some true) else ((comp_Start.f).bind fun t188 => (if 0 ≤ (wrap64 (Int.tmod a0 64)) then (if (wrap64 (Int.tmod a0 64)) < 8 then ((drawlotlaw04_mul.f k2 [IntKind.u64.wrap (Ar.get 8 t188 (wrap64 (Int.tmod a0 64))), x6_2, 0, 0] [IntKind.u64.wrap (Ar.get 8 t188 (wrap64 (Int.tmod a0 64))), x6_2, 0, 0]).bind fun t190 => ((drawlotlaw04_less.f k2 [0, 0, t164, 0] t190).bind fun t191 => (if t191 = true then (none) else ((drawlotlaw04_mul.f k2 [IntKind.u64.wrap ((Ar.get 4 [IntKind.u64.wrap (Ar.get 8 t188 (wrap64 (Int.tmod a0 64))), x6_2, 0, 0] 0) + 1), x6_2, 0, 0] [IntKind.u64.wrap ((Ar.get 4 [IntKind.u64.wrap (Ar.get 8 t188 (wrap64 (Int.tmod a0 64))), x6_2, 0, 0] 0) + 1), x6_2, 0, 0]).bind fun t192 => ((drawlotlaw04_less.f k2 [0, 0, t164, 0] t192).bind fun t193 => (some t193)))))) else (none)) else (none)))) else (none))) = some r := H
          have A73 := Aside0.mk A730
          clear A730
          replace H := Option.bind_eq_some_iff.mp H
          obtain ⟨t187, A740, H⟩ := H
          replace H : (if t187 = true then (if (wrap64 (Int.tmod a0 64)) > 7 then (some true) else ((comp_Start.f).bind fun t188 => (if 0 ≤ (wrap64 (Int.tmod a0 64)) then (if (wrap64 (Int.tmod a0 64)) < 8 then ((drawlotlaw04_mul.f k2 [IntKind.u64.wrap (Ar.get 8 t188 (wrap64 (Int.tmod a0 64))), x6_2, 0, 0] [IntKind.u64.wrap (Ar.get 8 t188 (wrap64 (Int.tmod a0 64))), x6_2, 0, 0]).bind fun t190 => ((drawlotlaw04_less.f k2 [0, 0, t164, 0] t190).bind fun t191 => (if t191 = true then (none) else ((drawlotlaw04_mul.f k2 [IntKind.u64.wrap ((Ar.get 4 [IntKind.u64.wrap (Ar.get 8 t188 (wrap64 (Int.tmod a0 64))), x6_2, 0, 0] 0) + 1), x6_2, 0, 0] [IntKind.u64.wrap ((Ar.get 4 [IntKind.u64.wrap (Ar.get 8 t188 (wrap64 (Int.tmod a0 64))), x6_2, 0, 0] 0) + 1), x6_2, 0, 0]).bind fun t192 => ((drawlotlaw04_less.f k2 [0, 0, t164, 0] t192).bind fun t193 => (some t193)))))) else (none)) else (none)))) else (none)) = some r := H
          have A74 := Aside0.mk A740
          clear A740
          by_cases c75 : t187 = true
          ·subst c75
           have H1 : (if (wrap64 (Int.tmod a0 64)) > 7 then (some true) else ((comp_Start.f).bind fun t188 => (if 0 ≤ (wrap64 (Int.tmod a0 64)) then (if (wrap64 (Int.tmod a0 64)) < 8 then ((drawlotlaw04_mul.f k2 [IntKind.u64.wrap (Ar.get 8 t188 (wrap64 (Int.tmod a0 64))), x6_2, 0, 0] [IntKind.u64.wrap (Ar.get 8 t188 (wrap64 (Int.tmod a0 64))), x6_2, 0, 0]).bind fun t190 => ((drawlotlaw04_less.f k2 [0, 0, t164, 0] t190).bind fun t191 => (if t191 = true then (none) else ((drawlotlaw04_mul.f k2 [IntKind.u64.wrap ((Ar.get 4 [IntKind.u64.wrap (Ar.get 8 t188 (wrap64 (Int.tmod a0 64))), x6_2, 0, 0] 0) + 1), x6_2, 0, 0] [IntKind.u64.wrap ((Ar.get 4 [IntKind.u64.wrap (Ar.get 8 t188 (wrap64 (Int.tmod a0 64))), x6_2, 0, 0] 0) + 1), x6_2, 0, 0]).bind fun t192 => ((drawlotlaw04_less.f k2 [0, 0, t164, 0] t192).bind fun t193 => (some t193)))))) else (none)) else (none)))) = some r := by rw [if_pos rfl] at H; exact H
           clear H
           have H := H1
           clear H1
           by_cases c76 : (wrap64 (Int.tmod a0 64)) > 7
           ·rw [if_pos c76] at H
            have c76b0 : decide (7 < (wrap64 (Int.tmod a0 64))) = true := decide_eq_true c76
            clear c76
            obtain rfl := Option.some.inj H
            try go_wp2_with (first | ((with_reducible refine gate_callee (f := 54) rfl ?_); refine goesL_ (some 40) rfl rfl Try.func54 (by kernel_rfl) rfl #[.int .i64 (wrap64 (Int.tmod a0 64))] rfl (by (try simp only [List.map_toArray, List.map_cons, List.map_nil]); first | done | rfl | (simp only [List.length_drop, List.length_take]; rfl)) ?_; (with_reducible refine (comp_Constant.calls (wrap64 (Int.tmod a0 64)) t165 _ A8.out).mono ?_); rintro e w77 ⟨rfl, hb⟩; refine ⟨_, rfl, ?_⟩; have n0_ := Aside0.mk (below_step (by repeat (first | (with_reducible first | exact HB.out | apply below_alloc | apply pw_below_drewN | apply below_drew1) | exact HB.out)) hb); clear HB; have HB := n0_; clear n0_; (try clear hb); (try clear hb2); (try clear hk); (try clear hi)) | ((with_reducible refine gate_dst (N := 43) rfl ?_); (try (refine gate_guard (by rfl) ?_; dsimp only)); refine Ar.build_event rfl (D := 43) rfl (T := 67) rfl (k := .u64) (n := 4) (l := [IntKind.u64.wrap (t165), x5_1, 0, 0]) Try.underlying67 (by kernel_rfl) (by kernel_rfl) [(0, IntKind.u64.wrap (t165)), (1, x5_1)] (by rfl) (by rfl) (by rfl) ?_) | ((with_reducible refine gate_dst (N := 7) rfl ?_); (try (refine gate_guard (by rfl) ?_; dsimp only)); refine box_event ?hg (N := 7) ?hd (cs := (Ar.cells .u64 4 (List.replicate 4 0))) (t := 67) ?hr ?_; (case hd => rfl); (case hg => rfl); (case hr => first | exact Ar.box_run rfl rfl | exact Ar.alloc_run rfl (by kernel_rfl) | (go_simp; done) | (go_simp; rfl)); intro gb166 hg w78 hbox hb; have n0_ := Aside0.mk (below_step (by repeat (first | (with_reducible first | exact HB.out | apply below_alloc | apply pw_below_drewN | apply below_drew1) | exact HB.out)) hb); have n1_ := Aside0.mk (hbox); have n2_ := Aside0.mk ((by rw [hg]; exact (below_size (by repeat (first | (with_reducible first | exact HB.out | apply below_alloc | apply pw_below_drewN | apply below_drew1) | exact HB.out))) : w.heap.size ≤ gb166)); have n3_ := Aside0.mk ((by rw [hg]; exact (below_size (by repeat (first | (with_reducible first | exact HB.out | apply below_alloc | apply pw_below_drewN | apply below_drew1) | exact HB.out))) : w.heap.size ≤ gb166)); clear HB; have HB := n0_; have BK166 := n1_; have GW166 := n2_; have GE166 := n3_; clear n0_ n1_ n2_ n3_; clear hb hbox hg) | ((with_reducible refine gate_store (t := 67) (p := 7) rfl ?_); refine Ar.store_all_event rfl rfl rfl Try.underlying67 (by kernel_rfl) (g := gb166) rfl (z := [IntKind.u64.wrap (t165), x5_1, 0, 0]) (by first | rfl | (go_simp; done) | (go_simp; rfl)) (by (with_reducible repeat (first | refine blk_drewN ?_ _ | refine blk_drew ?_ | refine blk_alloc ?_ _)); exact BK166.out) ?_; intro w79 hbk_ hg; have n0_ := Aside0.mk (hbk_); have n1_ := Aside0.mk (Below.grown (by repeat (first | (with_reducible first | exact HB.out | apply below_alloc | apply pw_below_drewN | apply below_drew1 | refine below_set ?_ GE166.out) | exact HB.out)) hg ((below_size (by repeat (first | (with_reducible first | exact HB.out | apply below_alloc | apply pw_below_drewN | apply below_drew1 | refine below_set ?_ GE166.out) | exact HB.out)))) (fun _ e_ => by cases e_; exact GE166.out)); clear BK166; clear HB; have BK166 := n0_; have HB := n1_; clear n0_ n1_; clear hbk_ hg) | ((with_reducible refine gate_dst (N := 44) rfl ?_); (try (refine gate_guard (by rfl) ?_; dsimp only)); refine Ar.idx_event rfl (D := 44) rfl (T := 67) (n := 4) rfl Try.underlying67 (by kernel_rfl) (g := gb166) rfl (j := 0) (by first | rfl | (go_simp; done) | (go_simp; rfl)) (by decide) (by decide) ?_) | ((with_reducible refine gate_dst (N := 45) rfl ?_); (try (refine gate_guard (by rfl) ?_; dsimp only)); refine Ar.get_event rfl (D := 45) rfl (E := 26) rfl Try.underlying26 (g := gb166) (j := 0) rfl (by (with_reducible repeat (first | refine blk_drewN ?_ _ | refine blk_drew ?_ | refine blk_alloc ?_ _)); exact BK166.out) (by decide) (by decide) ?_) | ((with_reducible refine gate_dst (N := 48) rfl ?_); (try (refine gate_guard (by rfl) ?_; dsimp only)); refine Ar.build_event rfl (D := 48) rfl (T := 67) rfl (k := .u64) (n := 4) (l := [IntKind.u64.wrap ((Ar.get 4 [IntKind.u64.wrap (t165), x5_1, 0, 0] 0) + 1), x5_1, 0, 0]) Try.underlying67 (by kernel_rfl) (by kernel_rfl) [(0, IntKind.u64.wrap ((Ar.get 4 [IntKind.u64.wrap (t165), x5_1, 0, 0] 0) + 1)), (1, x5_1)] (by rfl) (by rfl) (by rfl) ?_) | ((with_reducible refine gate_dst (N := 8) rfl ?_); (try (refine gate_guard (by rfl) ?_; dsimp only)); refine box_event ?hg (N := 8) ?hd (cs := (Ar.cells .u64 4 (List.replicate 4 0))) (t := 67) ?hr ?_; (case hd => rfl); (case hg => rfl); (case hr => first | exact Ar.box_run rfl rfl | exact Ar.alloc_run rfl (by kernel_rfl) | (go_simp; done) | (go_simp; rfl)); intro gb167 hg w80 hbox hb; have n0_ := Aside0.mk (blk_below (g := gb166) (o := .cells (Ar.cells .u64 4 [IntKind.u64.wrap (t165), x5_1, 0, 0]) 67 (0, 0)) (by (with_reducible repeat (first | refine blk_drewN ?_ _ | refine blk_drew ?_ | refine blk_alloc ?_ _)); exact BK166.out) hb); have n1_ := Aside0.mk (below_step (by repeat (first | (with_reducible first | exact HB.out | apply below_alloc | apply pw_below_drewN | apply below_drew1 | refine below_set ?_ GE166.out) | exact HB.out)) hb); have n2_ := Aside0.mk (hbox); have n3_ := Aside0.mk ((by rw [hg]; exact (below_size (by repeat (first | (with_reducible first | exact HB.out | apply below_alloc | apply pw_below_drewN | apply below_drew1 | refine below_set ?_ GE166.out) | exact HB.out))) : w.heap.size ≤ gb167)); have n4_ := Aside0.mk ((by rw [hg]; exact (below_size (by repeat (first | (with_reducible first | exact HB.out | apply below_alloc | apply pw_below_drewN | apply below_drew1 | refine below_set ?_ GE166.out) | exact HB.out))) : w.heap.size ≤ gb167)); have n5_ := Aside0.mk ((by rw [hg]; exact Nat.ne_of_lt (blk_lt (g := gb166) (o := .cells (Ar.cells .u64 4 [IntKind.u64.wrap (t165), x5_1, 0, 0]) 67 (0, 0)) (by (with_reducible repeat (first | refine blk_drewN ?_ _ | refine blk_drew ?_ | refine blk_alloc ?_ _)); exact BK166.out)) : gb166 ≠ gb167)); have n6_ := Aside0.mk ((by rw [hg]; exact Nat.ne_of_gt (blk_lt (g := gb166) (o := .cells (Ar.cells .u64 4 [IntKind.u64.wrap (t165), x5_1, 0, 0]) 67 (0, 0)) (by (with_reducible repeat (first | refine blk_drewN ?_ _ | refine blk_drew ?_ | refine blk_alloc ?_ _)); exact BK166.out)) : gb167 ≠ gb166)); clear BK166; clear HB; have BK166 := n0_; have HB := n1_; have BK167 := n2_; have GW167 := n3_; have GE167 := n4_; have NB166_167 := n5_; have NB167_166 := n6_; clear n0_ n1_ n2_ n3_ n4_ n5_ n6_; clear hb hbox hg) | ((with_reducible refine gate_store (t := 67) (p := 8) rfl ?_); refine Ar.store_all_event rfl rfl rfl Try.underlying67 (by kernel_rfl) (g := gb167) rfl (z := [IntKind.u64.wrap ((Ar.get 4 [IntKind.u64.wrap (t165), x5_1, 0, 0] 0) + 1), x5_1, 0, 0]) (by first | rfl | (go_simp; done) | (go_simp; rfl)) (by (with_reducible repeat (first | refine blk_drewN ?_ _ | refine blk_drew ?_ | refine blk_alloc ?_ _)); exact BK167.out) ?_; intro w81 hbk_ hg; have n0_ := Aside0.mk (blk_grown (g := gb166) (o := .cells (Ar.cells .u64 4 [IntKind.u64.wrap (t165), x5_1, 0, 0]) 67 (0, 0)) (by (with_reducible repeat (first | refine blk_drewN ?_ _ | refine blk_drew ?_ | refine blk_alloc ?_ _)); exact BK166.out) hg (fun e_ => NB166_167.out (Option.some.inj e_))); have n1_ := Aside0.mk (hbk_); have n2_ := Aside0.mk (Below.grown (by repeat (first | (with_reducible first | exact HB.out | apply below_alloc | apply pw_below_drewN | apply below_drew1 | refine below_set ?_ GE166.out | refine below_set ?_ GE167.out) | exact HB.out)) hg ((below_size (by repeat (first | (with_reducible first | exact HB.out | apply below_alloc | apply pw_below_drewN | apply below_drew1 | refine below_set ?_ GE166.out | refine below_set ?_ GE167.out) | exact HB.out)))) (fun _ e_ => by cases e_; exact GE167.out)); clear BK166; clear BK167; clear HB; have BK166 := n0_; have BK167 := n1_; have HB := n2_; clear n0_ n1_ n2_; clear hbk_ hg) | ((with_reducible refine gate_dst (N := 49) rfl ?_); (try (refine gate_guard (by rfl) ?_; dsimp only)); refine Ar.idx_event rfl (D := 49) rfl (T := 67) (n := 4) rfl Try.underlying67 (by kernel_rfl) (g := gb166) rfl (j := 0) (by first | rfl | (go_simp; done) | (go_simp; rfl)) (by decide) (by decide) ?_) | ((with_reducible refine gate_dst (N := 50) rfl ?_); (try (refine gate_guard (by rfl) ?_; dsimp only)); refine Ar.get_event rfl (D := 50) rfl (E := 26) rfl Try.underlying26 (g := gb166) (j := 0) rfl (by (with_reducible repeat (first | refine blk_drewN ?_ _ | refine blk_drew ?_ | refine blk_alloc ?_ _)); exact BK166.out) (by decide) (by decide) ?_) | ((with_reducible refine gate_dst (N := 56) rfl ?_); (try (refine gate_guard (by rfl) ?_; dsimp only)); refine Ar.build_event rfl (D := 56) rfl (T := 67) rfl (k := .u64) (n := 4) (l := [0, 0, 0, t164]) Try.underlying67 (by kernel_rfl) (by kernel_rfl) [(0, 0), (1, 0), (2, 0), (3, t164)] (by rfl) (by rfl) (by rfl) ?_) | ((with_reducible refine gate_dst (N := 9) rfl ?_); (try (refine gate_guard (by rfl) ?_; dsimp only)); refine box_event ?hg (N := 9) ?hd (cs := (Ar.cells .u64 4 (List.replicate 4 0))) (t := 67) ?hr ?_; (case hd => rfl); (case hg => rfl); (case hr => first | exact Ar.box_run rfl rfl | exact Ar.alloc_run rfl (by kernel_rfl) | (go_simp; done) | (go_simp; rfl)); intro gb181 hg w82 hbox hb; have n0_ := Aside0.mk (blk_below (g := gb166) (o := .cells (Ar.cells .u64 4 [IntKind.u64.wrap (t165), x5_1, 0, 0]) 67 (0, 0)) (by (with_reducible repeat (first | refine blk_drewN ?_ _ | refine blk_drew ?_ | refine blk_alloc ?_ _)); exact BK166.out) hb); have n1_ := Aside0.mk (blk_below (g := gb167) (o := .cells (Ar.cells .u64 4 [IntKind.u64.wrap ((Ar.get 4 [IntKind.u64.wrap (t165), x5_1, 0, 0] 0) + 1), x5_1, 0, 0]) 67 (0, 0)) (by (with_reducible repeat (first | refine blk_drewN ?_ _ | refine blk_drew ?_ | refine blk_alloc ?_ _)); exact BK167.out) hb); have n2_ := Aside0.mk (below_step (by repeat (first | (with_reducible first | exact HB.out | apply below_alloc | apply pw_below_drewN | apply below_drew1 | refine below_set ?_ GE166.out | refine below_set ?_ GE167.out) | exact HB.out)) hb); have n3_ := Aside0.mk (hbox); have n4_ := Aside0.mk ((by rw [hg]; exact (below_size (by repeat (first | (with_reducible first | exact HB.out | apply below_alloc | apply pw_below_drewN | apply below_drew1 | refine below_set ?_ GE166.out | refine below_set ?_ GE167.out) | exact HB.out))) : w.heap.size ≤ gb181)); have n5_ := Aside0.mk ((by rw [hg]; exact (below_size (by repeat (first | (with_reducible first | exact HB.out | apply below_alloc | apply pw_below_drewN | apply below_drew1 | refine below_set ?_ GE166.out | refine below_set ?_ GE167.out) | exact HB.out))) : w.heap.size ≤ gb181)); have n6_ := Aside0.mk ((by rw [hg]; exact Nat.ne_of_lt (blk_lt (g := gb166) (o := .cells (Ar.cells .u64 4 [IntKind.u64.wrap (t165), x5_1, 0, 0]) 67 (0, 0)) (by (with_reducible repeat (first | refine blk_drewN ?_ _ | refine blk_drew ?_ | refine blk_alloc ?_ _)); exact BK166.out)) : gb166 ≠ gb181)); have n7_ := Aside0.mk ((by rw [hg]; exact Nat.ne_of_gt (blk_lt (g := gb166) (o := .cells (Ar.cells .u64 4 [IntKind.u64.wrap (t165), x5_1, 0, 0]) 67 (0, 0)) (by (with_reducible repeat (first | refine blk_drewN ?_ _ | refine blk_drew ?_ | refine blk_alloc ?_ _)); exact BK166.out)) : gb181 ≠ gb166)); have n8_ := Aside0.mk ((by rw [hg]; exact Nat.ne_of_lt (blk_lt (g := gb167) (o := .cells (Ar.cells .u64 4 [IntKind.u64.wrap ((Ar.get 4 [IntKind.u64.wrap (t165), x5_1, 0, 0] 0) + 1), x5_1, 0, 0]) 67 (0, 0)) (by (with_reducible repeat (first | refine blk_drewN ?_ _ | refine blk_drew ?_ | refine blk_alloc ?_ _)); exact BK167.out)) : gb167 ≠ gb181)); have n9_ := Aside0.mk ((by rw [hg]; exact Nat.ne_of_gt (blk_lt (g := gb167) (o := .cells (Ar.cells .u64 4 [IntKind.u64.wrap ((Ar.get 4 [IntKind.u64.wrap (t165), x5_1, 0, 0] 0) + 1), x5_1, 0, 0]) 67 (0, 0)) (by (with_reducible repeat (first | refine blk_drewN ?_ _ | refine blk_drew ?_ | refine blk_alloc ?_ _)); exact BK167.out)) : gb181 ≠ gb167)); clear BK166; clear BK167; clear HB; have BK166 := n0_; have BK167 := n1_; have HB := n2_; have BK181 := n3_; have GW181 := n4_; have GE181 := n5_; have NB166_181 := n6_; have NB181_166 := n7_; have NB167_181 := n8_; have NB181_167 := n9_; clear n0_ n1_ n2_ n3_ n4_ n5_ n6_ n7_ n8_ n9_; clear hb hbox hg) | ((with_reducible refine gate_store (t := 67) (p := 9) rfl ?_); refine Ar.store_all_event rfl rfl rfl Try.underlying67 (by kernel_rfl) (g := gb181) rfl (z := [0, 0, 0, t164]) (by first | rfl | (go_simp; done) | (go_simp; rfl)) (by (with_reducible repeat (first | refine blk_drewN ?_ _ | refine blk_drew ?_ | refine blk_alloc ?_ _)); exact BK181.out) ?_; intro w83 hbk_ hg; have n0_ := Aside0.mk (blk_grown (g := gb166) (o := .cells (Ar.cells .u64 4 [IntKind.u64.wrap (t165), x5_1, 0, 0]) 67 (0, 0)) (by (with_reducible repeat (first | refine blk_drewN ?_ _ | refine blk_drew ?_ | refine blk_alloc ?_ _)); exact BK166.out) hg (fun e_ => NB166_181.out (Option.some.inj e_))); have n1_ := Aside0.mk (blk_grown (g := gb167) (o := .cells (Ar.cells .u64 4 [IntKind.u64.wrap ((Ar.get 4 [IntKind.u64.wrap (t165), x5_1, 0, 0] 0) + 1), x5_1, 0, 0]) 67 (0, 0)) (by (with_reducible repeat (first | refine blk_drewN ?_ _ | refine blk_drew ?_ | refine blk_alloc ?_ _)); exact BK167.out) hg (fun e_ => NB167_181.out (Option.some.inj e_))); have n2_ := Aside0.mk (hbk_); have n3_ := Aside0.mk (Below.grown (by repeat (first | (with_reducible first | exact HB.out | apply below_alloc | apply pw_below_drewN | apply below_drew1 | refine below_set ?_ GE166.out | refine below_set ?_ GE167.out | refine below_set ?_ GE181.out) | exact HB.out)) hg ((below_size (by repeat (first | (with_reducible first | exact HB.out | apply below_alloc | apply pw_below_drewN | apply below_drew1 | refine below_set ?_ GE166.out | refine below_set ?_ GE167.out | refine below_set ?_ GE181.out) | exact HB.out)))) (fun _ e_ => by cases e_; exact GE181.out)); clear BK166; clear BK167; clear BK181; clear HB; have BK166 := n0_; have BK167 := n1_; have BK181 := n2_; have HB := n3_; clear n0_ n1_ n2_ n3_; clear hbk_ hg))
            have n0_ := Aside0.mk (blk_drew BK166.out)
            have n1_ := Aside0.mk (blk_drew BK167.out)
            have n2_ := Aside0.mk (blk_drew BK181.out)
            have n3_ := Aside0.mk (below_drew1 HB.out)
            clear BK166
            clear BK167
            clear BK181
            clear HB
            have BK166 := n0_
            have BK167 := n1_
            have BK181 := n2_
            have HB := n3_
            clear n0_ n1_ n2_ n3_
            refine start_ (n := 17) (S := fun w' => w'.heap[gb181]? = some (.cells (Ar.cells .u64 4 [0, 0, 0, t164]) 67 (0, 0)) ∧ w'.heap[gb166]? = some (.cells (Ar.cells .u64 4 [IntKind.u64.wrap (t165), x5_1, 0, 0]) 67 (0, 0)) ∧ w'.heap[gb167]? = some (.cells (Ar.cells .u64 4 [IntKind.u64.wrap ((Ar.get 4 [IntKind.u64.wrap (t165), x5_1, 0, 0] 0) + 1), x5_1, 0, 0]) 67 (0, 0))) (ds := []) #[false, false, false, false, false, false, false, false, false, false, false, false, false, false, false, false, false] (by kernel_rfl) rfl rfl ⟨BK181.out, BK166.out, BK167.out⟩ (fun hHeld => ?_); refine with_tabW drawlotlaw04_CompRoots.tab15 drawlotlaw04_CompRoots.bits15 (fun HT_ HW_ => ?_)
            generalize w83.drew = w84 at BK166 BK167 BK181 HB hHeld ⊢
            refine take_ (i := 0) (N := some 57) (v := ?_) (a' := ?_) #[true, false, false, false, false, false, false, false, false, false, false, false, false, false, false, false, false] rfl rfl (take_ofW HT_.out HW_.out (by kernel_rfl)) (fun _ _ _ h => h) (Or.inl ⟨by rfl, ?_⟩) hHeld ?_ ?_
            rotate_left
            ·rintro w' ⟨s0, s1, s2⟩
             first | (refine (Ar.load_run rfl Try.underlying67 (by kernel_rfl) rfl (by assumption)).trans ?_; with_reducible rfl) | (go_simp; with_reducible rfl)
            rotate_left
            ·simp only [Act.put, List.setIfInBounds_toArray, List.set_cons_zero, List.set_cons_succ, i64_w, i32_w]
             rfl
            refine take_ (i := 1) (N := some 58) (v := ?_) (a' := ?_) #[true, true, false, false, false, false, false, false, false, false, false, false, false, false, false, false, false] rfl rfl (take_ofW HT_.out HW_.out (by kernel_rfl)) (fun _ _ _ h => h) (Or.inl ⟨by rfl, ?_⟩) hHeld ?_ ?_
            rotate_left
            ·rintro w' ⟨s0, s1, s2⟩
             first | (refine (Ar.load_run rfl Try.underlying67 (by kernel_rfl) rfl (by assumption)).trans ?_; with_reducible rfl) | (go_simp; with_reducible rfl)
            rotate_left
            ·simp only [Act.put, List.setIfInBounds_toArray, List.set_cons_zero, List.set_cons_succ, i64_w, i32_w]
             rfl
            refine take_ (i := 2) (N := some 59) (v := ?_) (a' := ?_) #[true, true, true, false, false, false, false, false, false, false, false, false, false, false, false, false, false] rfl rfl (take_ofW HT_.out HW_.out (by kernel_rfl)) (fun _ _ _ h => h) (Or.inl ⟨by rfl, ?_⟩) hHeld ?_ ?_
            rotate_left
            ·rintro w' ⟨s0, s1, s2⟩
             first | (refine (Ar.load_run rfl Try.underlying67 (by kernel_rfl) rfl (by assumption)).trans ?_; with_reducible rfl) | (go_simp; with_reducible rfl)
            rotate_left
            ·simp only [Act.put, List.setIfInBounds_toArray, List.set_cons_zero, List.set_cons_succ, i64_w, i32_w]
             rfl
            refine take_ (i := 4) (N := some 61) (v := ?_) (a' := ?_) #[true, true, true, false, true, false, false, false, false, false, false, false, false, false, false, false, false] rfl rfl (take_ofW HT_.out HW_.out (by kernel_rfl)) (fun _ _ _ h => h) (Or.inl ⟨by rfl, ?_⟩) hHeld ?_ ?_
            rotate_left
            ·rintro w' ⟨s0, s1, s2⟩
             first | (refine (Ar.load_run rfl Try.underlying67 (by kernel_rfl) rfl (by assumption)).trans ?_; with_reducible rfl) | (go_simp; with_reducible rfl)
            rotate_left
            ·simp only [Act.put, List.setIfInBounds_toArray, List.set_cons_zero, List.set_cons_succ, i64_w, i32_w]
             rfl
            refine one_ (i := 3) (N := some 60) #[true, true, true, true, true, false, false, false, false, false, false, false, false, false, false, false, false] rfl rfl (one_of HT_.out (by kernel_rfl)) (by decide) (fun K hK => ?_)
            refine goes_ Try.func60 (by kernel_rfl) rfl #[.agg (Ar.cells .u64 4 [IntKind.u64.wrap (t165), x5_1, 0, 0]), .agg (Ar.cells .u64 4 [IntKind.u64.wrap (t165), x5_1, 0, 0])] (by rfl) rfl rfl (by (try simp only [List.map_toArray, List.map_cons, List.map_nil]); first | done | rfl | (simp only [List.length_drop, List.length_take]; rfl)) ?_
            with_reducible refine (drawlotlaw04_mul.calls k2 [IntKind.u64.wrap (t165), x5_1, 0, 0] [IntKind.u64.wrap (t165), x5_1, 0, 0] t182 _ A68.out).mono ?_
            rintro e w85 ⟨rfl, hb⟩
            refine ⟨_, rfl, ?_⟩
            have n0_ := Aside0.mk (blk_below (g := gb166) (o := .cells (Ar.cells .u64 4 [IntKind.u64.wrap (t165), x5_1, 0, 0]) 67 (0, 0)) (by (with_reducible repeat (first | refine blk_drewN ?_ _ | refine blk_drew ?_ | refine blk_alloc ?_ _)); exact BK166.out) hb)
            have n1_ := Aside0.mk (blk_below (g := gb167) (o := .cells (Ar.cells .u64 4 [IntKind.u64.wrap ((Ar.get 4 [IntKind.u64.wrap (t165), x5_1, 0, 0] 0) + 1), x5_1, 0, 0]) 67 (0, 0)) (by (with_reducible repeat (first | refine blk_drewN ?_ _ | refine blk_drew ?_ | refine blk_alloc ?_ _)); exact BK167.out) hb)
            have n2_ := Aside0.mk (blk_below (g := gb181) (o := .cells (Ar.cells .u64 4 [0, 0, 0, t164]) 67 (0, 0)) (by (with_reducible repeat (first | refine blk_drewN ?_ _ | refine blk_drew ?_ | refine blk_alloc ?_ _)); exact BK181.out) hb)
            have n3_ := Aside0.mk (below_step (by repeat (first | (with_reducible first | exact HB.out | apply below_alloc | apply pw_below_drewN | apply below_drew1 | refine below_set ?_ GE166.out | refine below_set ?_ GE167.out | refine below_set ?_ GE181.out) | exact HB.out)) hb)
            clear BK166
            clear BK167
            clear BK181
            clear HB
            have BK166 := n0_
            have BK167 := n1_
            have BK181 := n2_
            have HB := n3_
            clear n0_ n1_ n2_ n3_
            (try clear hb)
            (try clear hb2)
            (try clear hk)
            (try clear hi)
            refine hK.out _ _ ⟨BK181.out, BK166.out, BK167.out⟩ (fun hHeld => ?_)
            clear hK K
            refine norm_ (a' := ?_) ?_ ?_
            rotate_left
            ·show Act.put _ (some 60) _ = _
             simp only [Act.put, List.setIfInBounds_toArray, List.set_cons_zero, List.set_cons_succ, i64_w, i32_w]
             rfl
            refine one_ (i := 5) (N := some 62) #[true, true, true, true, true, true, false, false, false, false, false, false, false, false, false, false, false] rfl rfl (one_of HT_.out (by kernel_rfl)) (by decide) (fun K hK => ?_)
            refine goes_ Try.func60 (by kernel_rfl) rfl #[.agg (Ar.cells .u64 4 t182), .agg (Ar.cells .u64 4 [IntKind.u64.wrap (t165), x5_1, 0, 0])] (by rfl) rfl rfl (by (try simp only [List.map_toArray, List.map_cons, List.map_nil]); first | done | rfl | (simp only [List.length_drop, List.length_take]; rfl)) ?_
            with_reducible refine (drawlotlaw04_mul.calls k2 t182 [IntKind.u64.wrap (t165), x5_1, 0, 0] t183 _ A69.out).mono ?_
            rintro e w86 ⟨rfl, hb⟩
            refine ⟨_, rfl, ?_⟩
            have n0_ := Aside0.mk (blk_below (g := gb166) (o := .cells (Ar.cells .u64 4 [IntKind.u64.wrap (t165), x5_1, 0, 0]) 67 (0, 0)) (by (with_reducible repeat (first | refine blk_drewN ?_ _ | refine blk_drew ?_ | refine blk_alloc ?_ _)); exact BK166.out) hb)
            have n1_ := Aside0.mk (blk_below (g := gb167) (o := .cells (Ar.cells .u64 4 [IntKind.u64.wrap ((Ar.get 4 [IntKind.u64.wrap (t165), x5_1, 0, 0] 0) + 1), x5_1, 0, 0]) 67 (0, 0)) (by (with_reducible repeat (first | refine blk_drewN ?_ _ | refine blk_drew ?_ | refine blk_alloc ?_ _)); exact BK167.out) hb)
            have n2_ := Aside0.mk (blk_below (g := gb181) (o := .cells (Ar.cells .u64 4 [0, 0, 0, t164]) 67 (0, 0)) (by (with_reducible repeat (first | refine blk_drewN ?_ _ | refine blk_drew ?_ | refine blk_alloc ?_ _)); exact BK181.out) hb)
            have n3_ := Aside0.mk (below_step (by repeat (first | (with_reducible first | exact HB.out | apply below_alloc | apply pw_below_drewN | apply below_drew1 | refine below_set ?_ GE166.out | refine below_set ?_ GE167.out | refine below_set ?_ GE181.out) | exact HB.out)) hb)
            clear BK166
            clear BK167
            clear BK181
            clear HB
            have BK166 := n0_
            have BK167 := n1_
            have BK181 := n2_
            have HB := n3_
            clear n0_ n1_ n2_ n3_
            (try clear hb)
            (try clear hb2)
            (try clear hk)
            (try clear hi)
            refine hK.out _ _ ⟨BK181.out, BK166.out, BK167.out⟩ (fun hHeld => ?_)
            clear hK K
            refine norm_ (a' := ?_) ?_ ?_
            rotate_left
            ·show Act.put _ (some 62) _ = _
             simp only [Act.put, List.setIfInBounds_toArray, List.set_cons_zero, List.set_cons_succ, i64_w, i32_w]
             rfl
            refine one_ (i := 6) (N := some 63) #[true, true, true, true, true, true, true, false, false, false, false, false, false, false, false, false, false] rfl rfl (one_of HT_.out (by kernel_rfl)) (by decide) (fun K hK => ?_)
            refine goes_ Try.func59 (by kernel_rfl) rfl #[.agg (Ar.cells .u64 4 [0, 0, 0, t164]), .agg (Ar.cells .u64 4 t183)] (by rfl) rfl rfl (by (try simp only [List.map_toArray, List.map_cons, List.map_nil]); first | done | rfl | (simp only [List.length_drop, List.length_take]; rfl)) ?_
            with_reducible refine (drawlotlaw04_less.calls k2 [0, 0, 0, t164] t183 false _ A70.out).mono ?_
            rintro e w87 ⟨rfl, hb⟩
            refine ⟨_, rfl, ?_⟩
            have n0_ := Aside0.mk (blk_below (g := gb166) (o := .cells (Ar.cells .u64 4 [IntKind.u64.wrap (t165), x5_1, 0, 0]) 67 (0, 0)) (by (with_reducible repeat (first | refine blk_drewN ?_ _ | refine blk_drew ?_ | refine blk_alloc ?_ _)); exact BK166.out) hb)
            have n1_ := Aside0.mk (blk_below (g := gb167) (o := .cells (Ar.cells .u64 4 [IntKind.u64.wrap ((Ar.get 4 [IntKind.u64.wrap (t165), x5_1, 0, 0] 0) + 1), x5_1, 0, 0]) 67 (0, 0)) (by (with_reducible repeat (first | refine blk_drewN ?_ _ | refine blk_drew ?_ | refine blk_alloc ?_ _)); exact BK167.out) hb)
            have n2_ := Aside0.mk (blk_below (g := gb181) (o := .cells (Ar.cells .u64 4 [0, 0, 0, t164]) 67 (0, 0)) (by (with_reducible repeat (first | refine blk_drewN ?_ _ | refine blk_drew ?_ | refine blk_alloc ?_ _)); exact BK181.out) hb)
            have n3_ := Aside0.mk (below_step (by repeat (first | (with_reducible first | exact HB.out | apply below_alloc | apply pw_below_drewN | apply below_drew1 | refine below_set ?_ GE166.out | refine below_set ?_ GE167.out | refine below_set ?_ GE181.out) | exact HB.out)) hb)
            clear BK166
            clear BK167
            clear BK181
            clear HB
            have BK166 := n0_
            have BK167 := n1_
            have BK181 := n2_
            have HB := n3_
            clear n0_ n1_ n2_ n3_
            (try clear hb)
            (try clear hb2)
            (try clear hk)
            (try clear hi)
            refine hK.out _ _ ⟨BK181.out, BK166.out, BK167.out⟩ (fun hHeld => ?_)
            clear hK K
            refine norm_ (a' := ?_) ?_ ?_
            rotate_left
            ·show Act.put _ (some 63) _ = _
             simp only [Act.put, List.setIfInBounds_toArray, List.set_cons_zero, List.set_cons_succ, i64_w, i32_w]
             rfl
            refine pure_ (i := 7) (N := some 64) (v := ?_) (a' := ?_) #[true, true, true, true, true, true, true, true, false, false, false, false, false, false, false, false, false] rfl rfl (any_of HT_.out (by kernel_rfl)) (fun _ _ _ h => h) (Or.inl ⟨by rfl, ?_⟩) ?_ ?_
            rotate_left
            ·intro w'
             go_simp
             with_reducible rfl
            rotate_left
            ·simp only [Act.put, List.setIfInBounds_toArray, List.set_cons_zero, List.set_cons_succ, i64_w, i32_w]
             rfl
            refine take_ (i := 8) (N := some 65) (v := ?_) (a' := ?_) #[true, true, true, true, true, true, true, true, true, false, false, false, false, false, false, false, false] rfl rfl (take_ofW HT_.out HW_.out (by kernel_rfl)) (fun _ _ _ h => h) (Or.inl ⟨by rfl, ?_⟩) hHeld ?_ ?_
            rotate_left
            ·rintro w' ⟨s0, s1, s2⟩
             first | (refine (Ar.load_run rfl Try.underlying67 (by kernel_rfl) rfl (by assumption)).trans ?_; with_reducible rfl) | (go_simp; with_reducible rfl)
            rotate_left
            ·simp only [Act.put, List.setIfInBounds_toArray, List.set_cons_zero, List.set_cons_succ, i64_w, i32_w]
             rfl
            refine take_ (i := 9) (N := some 66) (v := ?_) (a' := ?_) #[true, true, true, true, true, true, true, true, true, true, false, false, false, false, false, false, false] rfl rfl (take_ofW HT_.out HW_.out (by kernel_rfl)) (fun _ _ _ h => h) (Or.inl ⟨by rfl, ?_⟩) hHeld ?_ ?_
            rotate_left
            ·rintro w' ⟨s0, s1, s2⟩
             first | (refine (Ar.load_run rfl Try.underlying67 (by kernel_rfl) rfl (by assumption)).trans ?_; with_reducible rfl) | (go_simp; with_reducible rfl)
            rotate_left
            ·simp only [Act.put, List.setIfInBounds_toArray, List.set_cons_zero, List.set_cons_succ, i64_w, i32_w]
             rfl
            refine take_ (i := 10) (N := some 67) (v := ?_) (a' := ?_) #[true, true, true, true, true, true, true, true, true, true, true, false, false, false, false, false, false] rfl rfl (take_ofW HT_.out HW_.out (by kernel_rfl)) (fun _ _ _ h => h) (Or.inl ⟨by rfl, ?_⟩) hHeld ?_ ?_
            rotate_left
            ·rintro w' ⟨s0, s1, s2⟩
             first | (refine (Ar.load_run rfl Try.underlying67 (by kernel_rfl) rfl (by assumption)).trans ?_; with_reducible rfl) | (go_simp; with_reducible rfl)
            rotate_left
            ·simp only [Act.put, List.setIfInBounds_toArray, List.set_cons_zero, List.set_cons_succ, i64_w, i32_w]
             rfl
            refine take_ (i := 12) (N := some 69) (v := ?_) (a' := ?_) #[true, true, true, true, true, true, true, true, true, true, true, false, true, false, false, false, false] rfl rfl (take_ofW HT_.out HW_.out (by kernel_rfl)) (fun _ _ _ h => h) (Or.inl ⟨by rfl, ?_⟩) hHeld ?_ ?_
            rotate_left
            ·rintro w' ⟨s0, s1, s2⟩
             first | (refine (Ar.load_run rfl Try.underlying67 (by kernel_rfl) rfl (by assumption)).trans ?_; with_reducible rfl) | (go_simp; with_reducible rfl)
            rotate_left
            ·simp only [Act.put, List.setIfInBounds_toArray, List.set_cons_zero, List.set_cons_succ, i64_w, i32_w]
             rfl
            refine one_ (i := 11) (N := some 68) #[true, true, true, true, true, true, true, true, true, true, true, true, true, false, false, false, false] rfl rfl (one_of HT_.out (by kernel_rfl)) (by decide) (fun K hK => ?_)
            refine goes_ Try.func60 (by kernel_rfl) rfl #[.agg (Ar.cells .u64 4 [IntKind.u64.wrap ((Ar.get 4 [IntKind.u64.wrap (t165), x5_1, 0, 0] 0) + 1), x5_1, 0, 0]), .agg (Ar.cells .u64 4 [IntKind.u64.wrap ((Ar.get 4 [IntKind.u64.wrap (t165), x5_1, 0, 0] 0) + 1), x5_1, 0, 0])] (by rfl) rfl rfl (by (try simp only [List.map_toArray, List.map_cons, List.map_nil]); first | done | rfl | (simp only [List.length_drop, List.length_take]; rfl)) ?_
            with_reducible refine (drawlotlaw04_mul.calls k2 [IntKind.u64.wrap ((Ar.get 4 [IntKind.u64.wrap (t165), x5_1, 0, 0] 0) + 1), x5_1, 0, 0] [IntKind.u64.wrap ((Ar.get 4 [IntKind.u64.wrap (t165), x5_1, 0, 0] 0) + 1), x5_1, 0, 0] t185 _ A72.out).mono ?_
            rintro e w88 ⟨rfl, hb⟩
            refine ⟨_, rfl, ?_⟩
            have n0_ := Aside0.mk (blk_below (g := gb166) (o := .cells (Ar.cells .u64 4 [IntKind.u64.wrap (t165), x5_1, 0, 0]) 67 (0, 0)) (by (with_reducible repeat (first | refine blk_drewN ?_ _ | refine blk_drew ?_ | refine blk_alloc ?_ _)); exact BK166.out) hb)
            have n1_ := Aside0.mk (blk_below (g := gb167) (o := .cells (Ar.cells .u64 4 [IntKind.u64.wrap ((Ar.get 4 [IntKind.u64.wrap (t165), x5_1, 0, 0] 0) + 1), x5_1, 0, 0]) 67 (0, 0)) (by (with_reducible repeat (first | refine blk_drewN ?_ _ | refine blk_drew ?_ | refine blk_alloc ?_ _)); exact BK167.out) hb)
            have n2_ := Aside0.mk (blk_below (g := gb181) (o := .cells (Ar.cells .u64 4 [0, 0, 0, t164]) 67 (0, 0)) (by (with_reducible repeat (first | refine blk_drewN ?_ _ | refine blk_drew ?_ | refine blk_alloc ?_ _)); exact BK181.out) hb)
            have n3_ := Aside0.mk (below_step (by repeat (first | (with_reducible first | exact HB.out | apply below_alloc | apply pw_below_drewN | apply below_drew1 | refine below_set ?_ GE166.out | refine below_set ?_ GE167.out | refine below_set ?_ GE181.out) | exact HB.out)) hb)
            clear BK166
            clear BK167
            clear BK181
            clear HB
            have BK166 := n0_
            have BK167 := n1_
            have BK181 := n2_
            have HB := n3_
            clear n0_ n1_ n2_ n3_
            (try clear hb)
            (try clear hb2)
            (try clear hk)
            (try clear hi)
            refine hK.out _ _ ⟨BK181.out, BK166.out, BK167.out⟩ (fun hHeld => ?_)
            clear hK K
            refine norm_ (a' := ?_) ?_ ?_
            rotate_left
            ·show Act.put _ (some 68) _ = _
             simp only [Act.put, List.setIfInBounds_toArray, List.set_cons_zero, List.set_cons_succ, i64_w, i32_w]
             rfl
            refine one_ (i := 13) (N := some 70) #[true, true, true, true, true, true, true, true, true, true, true, true, true, true, false, false, false] rfl rfl (one_of HT_.out (by kernel_rfl)) (by decide) (fun K hK => ?_)
            refine goes_ Try.func60 (by kernel_rfl) rfl #[.agg (Ar.cells .u64 4 t185), .agg (Ar.cells .u64 4 [IntKind.u64.wrap ((Ar.get 4 [IntKind.u64.wrap (t165), x5_1, 0, 0] 0) + 1), x5_1, 0, 0])] (by rfl) rfl rfl (by (try simp only [List.map_toArray, List.map_cons, List.map_nil]); first | done | rfl | (simp only [List.length_drop, List.length_take]; rfl)) ?_
            with_reducible refine (drawlotlaw04_mul.calls k2 t185 [IntKind.u64.wrap ((Ar.get 4 [IntKind.u64.wrap (t165), x5_1, 0, 0] 0) + 1), x5_1, 0, 0] t186 _ A73.out).mono ?_
            rintro e w89 ⟨rfl, hb⟩
            refine ⟨_, rfl, ?_⟩
            have n0_ := Aside0.mk (blk_below (g := gb166) (o := .cells (Ar.cells .u64 4 [IntKind.u64.wrap (t165), x5_1, 0, 0]) 67 (0, 0)) (by (with_reducible repeat (first | refine blk_drewN ?_ _ | refine blk_drew ?_ | refine blk_alloc ?_ _)); exact BK166.out) hb)
            have n1_ := Aside0.mk (blk_below (g := gb167) (o := .cells (Ar.cells .u64 4 [IntKind.u64.wrap ((Ar.get 4 [IntKind.u64.wrap (t165), x5_1, 0, 0] 0) + 1), x5_1, 0, 0]) 67 (0, 0)) (by (with_reducible repeat (first | refine blk_drewN ?_ _ | refine blk_drew ?_ | refine blk_alloc ?_ _)); exact BK167.out) hb)
            have n2_ := Aside0.mk (blk_below (g := gb181) (o := .cells (Ar.cells .u64 4 [0, 0, 0, t164]) 67 (0, 0)) (by (with_reducible repeat (first | refine blk_drewN ?_ _ | refine blk_drew ?_ | refine blk_alloc ?_ _)); exact BK181.out) hb)
            have n3_ := Aside0.mk (below_step (by repeat (first | (with_reducible first | exact HB.out | apply below_alloc | apply pw_below_drewN | apply below_drew1 | refine below_set ?_ GE166.out | refine below_set ?_ GE167.out | refine below_set ?_ GE181.out) | exact HB.out)) hb)
            clear BK166
            clear BK167
            clear BK181
            clear HB
            have BK166 := n0_
            have BK167 := n1_
            have BK181 := n2_
            have HB := n3_
            clear n0_ n1_ n2_ n3_
            (try clear hb)
            (try clear hb2)
            (try clear hk)
            (try clear hi)
            refine hK.out _ _ ⟨BK181.out, BK166.out, BK167.out⟩ (fun hHeld => ?_)
            clear hK K
            refine norm_ (a' := ?_) ?_ ?_
            rotate_left
            ·show Act.put _ (some 70) _ = _
             simp only [Act.put, List.setIfInBounds_toArray, List.set_cons_zero, List.set_cons_succ, i64_w, i32_w]
             rfl
            refine one_ (i := 14) (N := some 71) #[true, true, true, true, true, true, true, true, true, true, true, true, true, true, true, false, false] rfl rfl (one_of HT_.out (by kernel_rfl)) (by decide) (fun K hK => ?_)
            refine goes_ Try.func59 (by kernel_rfl) rfl #[.agg (Ar.cells .u64 4 [0, 0, 0, t164]), .agg (Ar.cells .u64 4 t186)] (by rfl) rfl rfl (by (try simp only [List.map_toArray, List.map_cons, List.map_nil]); first | done | rfl | (simp only [List.length_drop, List.length_take]; rfl)) ?_
            with_reducible refine (drawlotlaw04_less.calls k2 [0, 0, 0, t164] t186 true _ A74.out).mono ?_
            rintro e w90 ⟨rfl, hb⟩
            refine ⟨_, rfl, ?_⟩
            have n0_ := Aside0.mk (blk_below (g := gb166) (o := .cells (Ar.cells .u64 4 [IntKind.u64.wrap (t165), x5_1, 0, 0]) 67 (0, 0)) (by (with_reducible repeat (first | refine blk_drewN ?_ _ | refine blk_drew ?_ | refine blk_alloc ?_ _)); exact BK166.out) hb)
            have n1_ := Aside0.mk (blk_below (g := gb167) (o := .cells (Ar.cells .u64 4 [IntKind.u64.wrap ((Ar.get 4 [IntKind.u64.wrap (t165), x5_1, 0, 0] 0) + 1), x5_1, 0, 0]) 67 (0, 0)) (by (with_reducible repeat (first | refine blk_drewN ?_ _ | refine blk_drew ?_ | refine blk_alloc ?_ _)); exact BK167.out) hb)
            have n2_ := Aside0.mk (blk_below (g := gb181) (o := .cells (Ar.cells .u64 4 [0, 0, 0, t164]) 67 (0, 0)) (by (with_reducible repeat (first | refine blk_drewN ?_ _ | refine blk_drew ?_ | refine blk_alloc ?_ _)); exact BK181.out) hb)
            have n3_ := Aside0.mk (below_step (by repeat (first | (with_reducible first | exact HB.out | apply below_alloc | apply pw_below_drewN | apply below_drew1 | refine below_set ?_ GE166.out | refine below_set ?_ GE167.out | refine below_set ?_ GE181.out) | exact HB.out)) hb)
            clear BK166
            clear BK167
            clear BK181
            clear HB
            have BK166 := n0_
            have BK167 := n1_
            have BK181 := n2_
            have HB := n3_
            clear n0_ n1_ n2_ n3_
            (try clear hb)
            (try clear hb2)
            (try clear hk)
            (try clear hi)
            refine hK.out _ _ ⟨BK181.out, BK166.out, BK167.out⟩ (fun hHeld => ?_)
            clear hK K
            refine norm_ (a' := ?_) ?_ ?_
            rotate_left
            ·show Act.put _ (some 71) _ = _
             simp only [Act.put, List.setIfInBounds_toArray, List.set_cons_zero, List.set_cons_succ, i64_w, i32_w]
             rfl
            refine pure_ (i := 15) (N := some 72) (v := ?_) (a' := ?_) #[true, true, true, true, true, true, true, true, true, true, true, true, true, true, true, true, false] rfl rfl (any_of HT_.out (by kernel_rfl)) (fun _ _ _ h => h) (Or.inl ⟨by rfl, ?_⟩) ?_ ?_
            rotate_left
            ·intro w'
             go_simp
             with_reducible rfl
            rotate_left
            ·simp only [Act.put, List.setIfInBounds_toArray, List.set_cons_zero, List.set_cons_succ, i64_w, i32_w]
             rfl
            refine pure_ (i := 16) (N := some 73) (v := ?_) (a' := ?_) #[true, true, true, true, true, true, true, true, true, true, true, true, true, true, true, true, true] rfl rfl (any_of HT_.out (by kernel_rfl)) (fun _ _ _ h => h) (Or.inl ⟨by rfl, ?_⟩) ?_ ?_
            rotate_left
            ·intro w'
             go_simp
             with_reducible rfl
            rotate_left
            ·simp only [Act.put, List.setIfInBounds_toArray, List.set_cons_zero, List.set_cons_succ, i64_w, i32_w]
             rfl
            refine done_ (done_of HT_.out (by kernel_rfl)) ?_
            try go_wp2
            go_ret
            exact ⟨by first | rfl | (simp [errW_none, errW_some] <;> rfl) | (simp [*, errW_none, errW_some] <;> rfl), by repeat (first | (with_reducible first | exact HB.out | apply below_alloc | apply pw_below_drewN | apply below_drew1 | refine below_set ?_ GE166.out | refine below_set ?_ GE167.out | refine below_set ?_ GE181.out) | exact HB.out)⟩
           ·rw [if_neg c76] at H
            have c76b0 : decide (7 < (wrap64 (Int.tmod a0 64))) = false := decide_eq_false c76
            clear c76
            replace H := Option.bind_eq_some_iff.mp H
            obtain ⟨t188, A910, H⟩ := H
            replace H : (if 0 ≤ (wrap64 (Int.tmod a0 64)) then (if (wrap64 (Int.tmod a0 64)) < 8 then ((drawlotlaw04_mul.f k2 [IntKind.u64.wrap (Ar.get 8 t188 (wrap64 (Int.tmod a0 64))), x6_2, 0, 0] [IntKind.u64.wrap (Ar.get 8 t188 (wrap64 (Int.tmod a0 64))), x6_2, 0, 0]).bind fun t190 => ((drawlotlaw04_less.f k2 [0, 0, t164, 0] t190).bind fun t191 => (if t191 = true then (none) else ((drawlotlaw04_mul.f k2 [IntKind.u64.wrap ((Ar.get 4 [IntKind.u64.wrap (Ar.get 8 t188 (wrap64 (Int.tmod a0 64))), x6_2, 0, 0] 0) + 1), x6_2, 0, 0] [IntKind.u64.wrap ((Ar.get 4 [IntKind.u64.wrap (Ar.get 8 t188 (wrap64 (Int.tmod a0 64))), x6_2, 0, 0] 0) + 1), x6_2, 0, 0]).bind fun t192 => ((drawlotlaw04_less.f k2 [0, 0, t164, 0] t192).bind fun t193 => (some t193)))))) else (none)) else (none)) = some r := H
            have A91 := Aside0.mk A910
            clear A910
            obtain ⟨ji92, hji92⟩ : ∃ j_ : Int, (wrap64 (Int.tmod a0 64)) = j_ := ⟨_, rfl⟩
            replace H : (if 0 ≤ (ji92) then (if (ji92) < 8 then ((drawlotlaw04_mul.f k2 [IntKind.u64.wrap (Ar.get 8 t188 (ji92)), x6_2, 0, 0] [IntKind.u64.wrap (Ar.get 8 t188 (ji92)), x6_2, 0, 0]).bind fun t190 => ((drawlotlaw04_less.f k2 [0, 0, t164, 0] t190).bind fun t191 => (if t191 = true then (none) else ((drawlotlaw04_mul.f k2 [IntKind.u64.wrap ((Ar.get 4 [IntKind.u64.wrap (Ar.get 8 t188 (ji92)), x6_2, 0, 0] 0) + 1), x6_2, 0, 0] [IntKind.u64.wrap ((Ar.get 4 [IntKind.u64.wrap (Ar.get 8 t188 (ji92)), x6_2, 0, 0] 0) + 1), x6_2, 0, 0]).bind fun t192 => ((drawlotlaw04_less.f k2 [0, 0, t164, 0] t192).bind fun t193 => (some t193)))))) else (none)) else (none)) = some r := by first | (rw [hji92] at H; exact H) | (simp only [hji92] at H ⊢; exact H)
            (try rw [hji92] at c76b0)
            (try rw [hji92] at A8)
            (try rw [hji92] at A68)
            (try rw [hji92] at A69)
            (try rw [hji92] at A70)
            (try rw [hji92] at A72)
            (try rw [hji92] at A73)
            (try rw [hji92] at A74)
            (try rw [hji92] at A91)
            have hji92w : (IntKind.i64.wrap (Int.tmod a0 64)) = ji92 := (i64_w _).trans hji92
            by_cases c93 : 0 ≤ (ji92)
            ·rw [if_pos c93] at H
             have c93b0 : decide (0 ≤ (ji92)) = true := decide_eq_true c93
             clear c93
             by_cases c94 : (ji92) < 8
             ·rw [if_pos c94] at H
              have c94b0 : decide ((ji92) < 8) = true := decide_eq_true c94
              clear c94
              replace H := Option.bind_eq_some_iff.mp H
              obtain ⟨t190, A950, H⟩ := H
              replace H : ((drawlotlaw04_less.f k2 [0, 0, t164, 0] t190).bind fun t191 => (if t191 = true then (none) else ((drawlotlaw04_mul.f k2 [IntKind.u64.wrap ((Ar.get 4 [IntKind.u64.wrap (Ar.get 8 t188 (ji92)), x6_2, 0, 0] 0) + 1), x6_2, 0, 0] [IntKind.u64.wrap ((Ar.get 4 [IntKind.u64.wrap (Ar.get 8 t188 (ji92)), x6_2, 0, 0] 0) + 1), x6_2, 0, 0]).bind fun t192 => ((drawlotlaw04_less.f k2 [0, 0, t164, 0] t192).bind fun t193 => (some t193))))) = some r := H
              have A95 := Aside0.mk A950
              clear A950
              replace H := Option.bind_eq_some_iff.mp H
              obtain ⟨t191, A960, H⟩ := H
              replace H : (if t191 = true then (none) else ((drawlotlaw04_mul.f k2 [IntKind.u64.wrap ((Ar.get 4 [IntKind.u64.wrap (Ar.get 8 t188 (ji92)), x6_2, 0, 0] 0) + 1), x6_2, 0, 0] [IntKind.u64.wrap ((Ar.get 4 [IntKind.u64.wrap (Ar.get 8 t188 (ji92)), x6_2, 0, 0] 0) + 1), x6_2, 0, 0]).bind fun t192 => ((drawlotlaw04_less.f k2 [0, 0, t164, 0] t192).bind fun t193 => (some t193)))) = some r := H
              have A96 := Aside0.mk A960
              clear A960
              by_cases c97 : t191 = true
              ·subst c97
               have H1 : (none) = some r := by rw [if_pos rfl] at H; exact H
               clear H
               have H := H1
               clear H1
               exact absurd H (by simp)
              ·replace c97 := Bool.eq_false_iff.mpr c97
               subst c97
               have H1 : ((drawlotlaw04_mul.f k2 [IntKind.u64.wrap ((Ar.get 4 [IntKind.u64.wrap (Ar.get 8 t188 (ji92)), x6_2, 0, 0] 0) + 1), x6_2, 0, 0] [IntKind.u64.wrap ((Ar.get 4 [IntKind.u64.wrap (Ar.get 8 t188 (ji92)), x6_2, 0, 0] 0) + 1), x6_2, 0, 0]).bind fun t192 => ((drawlotlaw04_less.f k2 [0, 0, t164, 0] t192).bind fun t193 => (some t193))) = some r := by rw [if_neg (show ¬ (false = true) by decide)] at H; exact H
               clear H
               have H := H1
               clear H1
               replace H := Option.bind_eq_some_iff.mp H
               obtain ⟨t192, A980, H⟩ := H
               replace H : ((drawlotlaw04_less.f k2 [0, 0, t164, 0] t192).bind fun t193 => (some t193)) = some r := H
               have A98 := Aside0.mk A980
               clear A980
               replace H := Option.bind_eq_some_iff.mp H
               obtain ⟨t193, A990, H⟩ := H
               replace H : (some t193) = some r := H
               have A99 := Aside0.mk A990
               clear A990
               obtain rfl := Option.some.inj H
               try go_wp2_with (first | ((with_reducible refine gate_callee (f := 54) rfl ?_); refine goesL_ (some 40) rfl rfl Try.func54 (by kernel_rfl) rfl #[.int .i64 (ji92)] rfl (by (try simp only [List.map_toArray, List.map_cons, List.map_nil]); first | done | (simp only [hji92]; rfl) | rfl | (simp only [List.length_drop, List.length_take]; rfl)) ?_; (with_reducible refine (comp_Constant.calls (ji92) t165 _ A8.out).mono ?_); rintro e w100 ⟨rfl, hb⟩; refine ⟨_, rfl, ?_⟩; have n0_ := Aside0.mk (below_step (by repeat (first | (with_reducible first | exact HB.out | apply below_alloc | apply pw_below_drewN | apply below_drew1) | exact HB.out)) hb); clear HB; have HB := n0_; clear n0_; (try clear hb); (try clear hb2); (try clear hk); (try clear hi)) | ((with_reducible refine gate_dst (N := 43) rfl ?_); (try (refine gate_guard (by rfl) ?_; dsimp only)); refine Ar.build_event rfl (D := 43) rfl (T := 67) rfl (k := .u64) (n := 4) (l := [IntKind.u64.wrap (t165), x5_1, 0, 0]) Try.underlying67 (by kernel_rfl) (by kernel_rfl) [(0, IntKind.u64.wrap (t165)), (1, x5_1)] (by rfl) (by rfl) (by rfl) ?_) | ((with_reducible refine gate_dst (N := 7) rfl ?_); (try (refine gate_guard (by rfl) ?_; dsimp only)); refine box_event ?hg (N := 7) ?hd (cs := (Ar.cells .u64 4 (List.replicate 4 0))) (t := 67) ?hr ?_; (case hd => rfl); (case hg => rfl); (case hr => first | exact Ar.box_run rfl rfl | exact Ar.alloc_run rfl (by kernel_rfl) | (go_simp; done) | (go_simp; rfl)); intro gb166 hg w101 hbox hb; have n0_ := Aside0.mk (below_step (by repeat (first | (with_reducible first | exact HB.out | apply below_alloc | apply pw_below_drewN | apply below_drew1) | exact HB.out)) hb); have n1_ := Aside0.mk (hbox); have n2_ := Aside0.mk ((by rw [hg]; exact (below_size (by repeat (first | (with_reducible first | exact HB.out | apply below_alloc | apply pw_below_drewN | apply below_drew1) | exact HB.out))) : w.heap.size ≤ gb166)); have n3_ := Aside0.mk ((by rw [hg]; exact (below_size (by repeat (first | (with_reducible first | exact HB.out | apply below_alloc | apply pw_below_drewN | apply below_drew1) | exact HB.out))) : w.heap.size ≤ gb166)); clear HB; have HB := n0_; have BK166 := n1_; have GW166 := n2_; have GE166 := n3_; clear n0_ n1_ n2_ n3_; clear hb hbox hg) | ((with_reducible refine gate_store (t := 67) (p := 7) rfl ?_); refine Ar.store_all_event rfl rfl rfl Try.underlying67 (by kernel_rfl) (g := gb166) rfl (z := [IntKind.u64.wrap (t165), x5_1, 0, 0]) (by first | rfl | (go_simp; done) | (go_simp; rfl)) (by (with_reducible repeat (first | refine blk_drewN ?_ _ | refine blk_drew ?_ | refine blk_alloc ?_ _)); exact BK166.out) ?_; intro w102 hbk_ hg; have n0_ := Aside0.mk (hbk_); have n1_ := Aside0.mk (Below.grown (by repeat (first | (with_reducible first | exact HB.out | apply below_alloc | apply pw_below_drewN | apply below_drew1 | refine below_set ?_ GE166.out) | exact HB.out)) hg ((below_size (by repeat (first | (with_reducible first | exact HB.out | apply below_alloc | apply pw_below_drewN | apply below_drew1 | refine below_set ?_ GE166.out) | exact HB.out)))) (fun _ e_ => by cases e_; exact GE166.out)); clear BK166; clear HB; have BK166 := n0_; have HB := n1_; clear n0_ n1_; clear hbk_ hg) | ((with_reducible refine gate_dst (N := 44) rfl ?_); (try (refine gate_guard (by rfl) ?_; dsimp only)); refine Ar.idx_event rfl (D := 44) rfl (T := 67) (n := 4) rfl Try.underlying67 (by kernel_rfl) (g := gb166) rfl (j := 0) (by first | rfl | (go_simp; done) | (go_simp; rfl)) (by decide) (by decide) ?_) | ((with_reducible refine gate_dst (N := 45) rfl ?_); (try (refine gate_guard (by rfl) ?_; dsimp only)); refine Ar.get_event rfl (D := 45) rfl (E := 26) rfl Try.underlying26 (g := gb166) (j := 0) rfl (by (with_reducible repeat (first | refine blk_drewN ?_ _ | refine blk_drew ?_ | refine blk_alloc ?_ _)); exact BK166.out) (by decide) (by decide) ?_) | ((with_reducible refine gate_dst (N := 48) rfl ?_); (try (refine gate_guard (by rfl) ?_; dsimp only)); refine Ar.build_event rfl (D := 48) rfl (T := 67) rfl (k := .u64) (n := 4) (l := [IntKind.u64.wrap ((Ar.get 4 [IntKind.u64.wrap (t165), x5_1, 0, 0] 0) + 1), x5_1, 0, 0]) Try.underlying67 (by kernel_rfl) (by kernel_rfl) [(0, IntKind.u64.wrap ((Ar.get 4 [IntKind.u64.wrap (t165), x5_1, 0, 0] 0) + 1)), (1, x5_1)] (by rfl) (by rfl) (by rfl) ?_) | ((with_reducible refine gate_dst (N := 8) rfl ?_); (try (refine gate_guard (by rfl) ?_; dsimp only)); refine box_event ?hg (N := 8) ?hd (cs := (Ar.cells .u64 4 (List.replicate 4 0))) (t := 67) ?hr ?_; (case hd => rfl); (case hg => rfl); (case hr => first | exact Ar.box_run rfl rfl | exact Ar.alloc_run rfl (by kernel_rfl) | (go_simp; done) | (go_simp; rfl)); intro gb167 hg w103 hbox hb; have n0_ := Aside0.mk (blk_below (g := gb166) (o := .cells (Ar.cells .u64 4 [IntKind.u64.wrap (t165), x5_1, 0, 0]) 67 (0, 0)) (by (with_reducible repeat (first | refine blk_drewN ?_ _ | refine blk_drew ?_ | refine blk_alloc ?_ _)); exact BK166.out) hb); have n1_ := Aside0.mk (below_step (by repeat (first | (with_reducible first | exact HB.out | apply below_alloc | apply pw_below_drewN | apply below_drew1 | refine below_set ?_ GE166.out) | exact HB.out)) hb); have n2_ := Aside0.mk (hbox); have n3_ := Aside0.mk ((by rw [hg]; exact (below_size (by repeat (first | (with_reducible first | exact HB.out | apply below_alloc | apply pw_below_drewN | apply below_drew1 | refine below_set ?_ GE166.out) | exact HB.out))) : w.heap.size ≤ gb167)); have n4_ := Aside0.mk ((by rw [hg]; exact (below_size (by repeat (first | (with_reducible first | exact HB.out | apply below_alloc | apply pw_below_drewN | apply below_drew1 | refine below_set ?_ GE166.out) | exact HB.out))) : w.heap.size ≤ gb167)); have n5_ := Aside0.mk ((by rw [hg]; exact Nat.ne_of_lt (blk_lt (g := gb166) (o := .cells (Ar.cells .u64 4 [IntKind.u64.wrap (t165), x5_1, 0, 0]) 67 (0, 0)) (by (with_reducible repeat (first | refine blk_drewN ?_ _ | refine blk_drew ?_ | refine blk_alloc ?_ _)); exact BK166.out)) : gb166 ≠ gb167)); have n6_ := Aside0.mk ((by rw [hg]; exact Nat.ne_of_gt (blk_lt (g := gb166) (o := .cells (Ar.cells .u64 4 [IntKind.u64.wrap (t165), x5_1, 0, 0]) 67 (0, 0)) (by (with_reducible repeat (first | refine blk_drewN ?_ _ | refine blk_drew ?_ | refine blk_alloc ?_ _)); exact BK166.out)) : gb167 ≠ gb166)); clear BK166; clear HB; have BK166 := n0_; have HB := n1_; have BK167 := n2_; have GW167 := n3_; have GE167 := n4_; have NB166_167 := n5_; have NB167_166 := n6_; clear n0_ n1_ n2_ n3_ n4_ n5_ n6_; clear hb hbox hg) | ((with_reducible refine gate_store (t := 67) (p := 8) rfl ?_); refine Ar.store_all_event rfl rfl rfl Try.underlying67 (by kernel_rfl) (g := gb167) rfl (z := [IntKind.u64.wrap ((Ar.get 4 [IntKind.u64.wrap (t165), x5_1, 0, 0] 0) + 1), x5_1, 0, 0]) (by first | rfl | (go_simp; done) | (go_simp; rfl)) (by (with_reducible repeat (first | refine blk_drewN ?_ _ | refine blk_drew ?_ | refine blk_alloc ?_ _)); exact BK167.out) ?_; intro w104 hbk_ hg; have n0_ := Aside0.mk (blk_grown (g := gb166) (o := .cells (Ar.cells .u64 4 [IntKind.u64.wrap (t165), x5_1, 0, 0]) 67 (0, 0)) (by (with_reducible repeat (first | refine blk_drewN ?_ _ | refine blk_drew ?_ | refine blk_alloc ?_ _)); exact BK166.out) hg (fun e_ => NB166_167.out (Option.some.inj e_))); have n1_ := Aside0.mk (hbk_); have n2_ := Aside0.mk (Below.grown (by repeat (first | (with_reducible first | exact HB.out | apply below_alloc | apply pw_below_drewN | apply below_drew1 | refine below_set ?_ GE166.out | refine below_set ?_ GE167.out) | exact HB.out)) hg ((below_size (by repeat (first | (with_reducible first | exact HB.out | apply below_alloc | apply pw_below_drewN | apply below_drew1 | refine below_set ?_ GE166.out | refine below_set ?_ GE167.out) | exact HB.out)))) (fun _ e_ => by cases e_; exact GE167.out)); clear BK166; clear BK167; clear HB; have BK166 := n0_; have BK167 := n1_; have HB := n2_; clear n0_ n1_ n2_; clear hbk_ hg) | ((with_reducible refine gate_dst (N := 49) rfl ?_); (try (refine gate_guard (by rfl) ?_; dsimp only)); refine Ar.idx_event rfl (D := 49) rfl (T := 67) (n := 4) rfl Try.underlying67 (by kernel_rfl) (g := gb166) rfl (j := 0) (by first | rfl | (go_simp; done) | (go_simp; rfl)) (by decide) (by decide) ?_) | ((with_reducible refine gate_dst (N := 50) rfl ?_); (try (refine gate_guard (by rfl) ?_; dsimp only)); refine Ar.get_event rfl (D := 50) rfl (E := 26) rfl Try.underlying26 (g := gb166) (j := 0) rfl (by (with_reducible repeat (first | refine blk_drewN ?_ _ | refine blk_drew ?_ | refine blk_alloc ?_ _)); exact BK166.out) (by decide) (by decide) ?_) | ((with_reducible refine gate_dst (N := 56) rfl ?_); (try (refine gate_guard (by rfl) ?_; dsimp only)); refine Ar.build_event rfl (D := 56) rfl (T := 67) rfl (k := .u64) (n := 4) (l := [0, 0, 0, t164]) Try.underlying67 (by kernel_rfl) (by kernel_rfl) [(0, 0), (1, 0), (2, 0), (3, t164)] (by rfl) (by rfl) (by rfl) ?_) | ((with_reducible refine gate_dst (N := 9) rfl ?_); (try (refine gate_guard (by rfl) ?_; dsimp only)); refine box_event ?hg (N := 9) ?hd (cs := (Ar.cells .u64 4 (List.replicate 4 0))) (t := 67) ?hr ?_; (case hd => rfl); (case hg => rfl); (case hr => first | exact Ar.box_run rfl rfl | exact Ar.alloc_run rfl (by kernel_rfl) | (go_simp; done) | (go_simp; rfl)); intro gb181 hg w105 hbox hb; have n0_ := Aside0.mk (blk_below (g := gb166) (o := .cells (Ar.cells .u64 4 [IntKind.u64.wrap (t165), x5_1, 0, 0]) 67 (0, 0)) (by (with_reducible repeat (first | refine blk_drewN ?_ _ | refine blk_drew ?_ | refine blk_alloc ?_ _)); exact BK166.out) hb); have n1_ := Aside0.mk (blk_below (g := gb167) (o := .cells (Ar.cells .u64 4 [IntKind.u64.wrap ((Ar.get 4 [IntKind.u64.wrap (t165), x5_1, 0, 0] 0) + 1), x5_1, 0, 0]) 67 (0, 0)) (by (with_reducible repeat (first | refine blk_drewN ?_ _ | refine blk_drew ?_ | refine blk_alloc ?_ _)); exact BK167.out) hb); have n2_ := Aside0.mk (below_step (by repeat (first | (with_reducible first | exact HB.out | apply below_alloc | apply pw_below_drewN | apply below_drew1 | refine below_set ?_ GE166.out | refine below_set ?_ GE167.out) | exact HB.out)) hb); have n3_ := Aside0.mk (hbox); have n4_ := Aside0.mk ((by rw [hg]; exact (below_size (by repeat (first | (with_reducible first | exact HB.out | apply below_alloc | apply pw_below_drewN | apply below_drew1 | refine below_set ?_ GE166.out | refine below_set ?_ GE167.out) | exact HB.out))) : w.heap.size ≤ gb181)); have n5_ := Aside0.mk ((by rw [hg]; exact (below_size (by repeat (first | (with_reducible first | exact HB.out | apply below_alloc | apply pw_below_drewN | apply below_drew1 | refine below_set ?_ GE166.out | refine below_set ?_ GE167.out) | exact HB.out))) : w.heap.size ≤ gb181)); have n6_ := Aside0.mk ((by rw [hg]; exact Nat.ne_of_lt (blk_lt (g := gb166) (o := .cells (Ar.cells .u64 4 [IntKind.u64.wrap (t165), x5_1, 0, 0]) 67 (0, 0)) (by (with_reducible repeat (first | refine blk_drewN ?_ _ | refine blk_drew ?_ | refine blk_alloc ?_ _)); exact BK166.out)) : gb166 ≠ gb181)); have n7_ := Aside0.mk ((by rw [hg]; exact Nat.ne_of_gt (blk_lt (g := gb166) (o := .cells (Ar.cells .u64 4 [IntKind.u64.wrap (t165), x5_1, 0, 0]) 67 (0, 0)) (by (with_reducible repeat (first | refine blk_drewN ?_ _ | refine blk_drew ?_ | refine blk_alloc ?_ _)); exact BK166.out)) : gb181 ≠ gb166)); have n8_ := Aside0.mk ((by rw [hg]; exact Nat.ne_of_lt (blk_lt (g := gb167) (o := .cells (Ar.cells .u64 4 [IntKind.u64.wrap ((Ar.get 4 [IntKind.u64.wrap (t165), x5_1, 0, 0] 0) + 1), x5_1, 0, 0]) 67 (0, 0)) (by (with_reducible repeat (first | refine blk_drewN ?_ _ | refine blk_drew ?_ | refine blk_alloc ?_ _)); exact BK167.out)) : gb167 ≠ gb181)); have n9_ := Aside0.mk ((by rw [hg]; exact Nat.ne_of_gt (blk_lt (g := gb167) (o := .cells (Ar.cells .u64 4 [IntKind.u64.wrap ((Ar.get 4 [IntKind.u64.wrap (t165), x5_1, 0, 0] 0) + 1), x5_1, 0, 0]) 67 (0, 0)) (by (with_reducible repeat (first | refine blk_drewN ?_ _ | refine blk_drew ?_ | refine blk_alloc ?_ _)); exact BK167.out)) : gb181 ≠ gb167)); clear BK166; clear BK167; clear HB; have BK166 := n0_; have BK167 := n1_; have HB := n2_; have BK181 := n3_; have GW181 := n4_; have GE181 := n5_; have NB166_181 := n6_; have NB181_166 := n7_; have NB167_181 := n8_; have NB181_167 := n9_; clear n0_ n1_ n2_ n3_ n4_ n5_ n6_ n7_ n8_ n9_; clear hb hbox hg) | ((with_reducible refine gate_store (t := 67) (p := 9) rfl ?_); refine Ar.store_all_event rfl rfl rfl Try.underlying67 (by kernel_rfl) (g := gb181) rfl (z := [0, 0, 0, t164]) (by first | rfl | (go_simp; done) | (go_simp; rfl)) (by (with_reducible repeat (first | refine blk_drewN ?_ _ | refine blk_drew ?_ | refine blk_alloc ?_ _)); exact BK181.out) ?_; intro w106 hbk_ hg; have n0_ := Aside0.mk (blk_grown (g := gb166) (o := .cells (Ar.cells .u64 4 [IntKind.u64.wrap (t165), x5_1, 0, 0]) 67 (0, 0)) (by (with_reducible repeat (first | refine blk_drewN ?_ _ | refine blk_drew ?_ | refine blk_alloc ?_ _)); exact BK166.out) hg (fun e_ => NB166_181.out (Option.some.inj e_))); have n1_ := Aside0.mk (blk_grown (g := gb167) (o := .cells (Ar.cells .u64 4 [IntKind.u64.wrap ((Ar.get 4 [IntKind.u64.wrap (t165), x5_1, 0, 0] 0) + 1), x5_1, 0, 0]) 67 (0, 0)) (by (with_reducible repeat (first | refine blk_drewN ?_ _ | refine blk_drew ?_ | refine blk_alloc ?_ _)); exact BK167.out) hg (fun e_ => NB167_181.out (Option.some.inj e_))); have n2_ := Aside0.mk (hbk_); have n3_ := Aside0.mk (Below.grown (by repeat (first | (with_reducible first | exact HB.out | apply below_alloc | apply pw_below_drewN | apply below_drew1 | refine below_set ?_ GE166.out | refine below_set ?_ GE167.out | refine below_set ?_ GE181.out) | exact HB.out)) hg ((below_size (by repeat (first | (with_reducible first | exact HB.out | apply below_alloc | apply pw_below_drewN | apply below_drew1 | refine below_set ?_ GE166.out | refine below_set ?_ GE167.out | refine below_set ?_ GE181.out) | exact HB.out)))) (fun _ e_ => by cases e_; exact GE181.out)); clear BK166; clear BK167; clear BK181; clear HB; have BK166 := n0_; have BK167 := n1_; have BK181 := n2_; have HB := n3_; clear n0_ n1_ n2_ n3_; clear hbk_ hg))
               have n0_ := Aside0.mk (blk_drew BK166.out)
               have n1_ := Aside0.mk (blk_drew BK167.out)
               have n2_ := Aside0.mk (blk_drew BK181.out)
               have n3_ := Aside0.mk (below_drew1 HB.out)
               clear BK166
               clear BK167
               clear BK181
               clear HB
               have BK166 := n0_
               have BK167 := n1_
               have BK181 := n2_
               have HB := n3_
               clear n0_ n1_ n2_ n3_
               refine start_ (n := 17) (S := fun w' => w'.heap[gb181]? = some (.cells (Ar.cells .u64 4 [0, 0, 0, t164]) 67 (0, 0)) ∧ w'.heap[gb166]? = some (.cells (Ar.cells .u64 4 [IntKind.u64.wrap (t165), x5_1, 0, 0]) 67 (0, 0)) ∧ w'.heap[gb167]? = some (.cells (Ar.cells .u64 4 [IntKind.u64.wrap ((Ar.get 4 [IntKind.u64.wrap (t165), x5_1, 0, 0] 0) + 1), x5_1, 0, 0]) 67 (0, 0))) (ds := []) #[false, false, false, false, false, false, false, false, false, false, false, false, false, false, false, false, false] (by kernel_rfl) rfl rfl ⟨BK181.out, BK166.out, BK167.out⟩ (fun hHeld => ?_); refine with_tabW drawlotlaw04_CompRoots.tab15 drawlotlaw04_CompRoots.bits15 (fun HT_ HW_ => ?_)
               generalize w106.drew = w107 at BK166 BK167 BK181 HB hHeld ⊢
               refine take_ (i := 0) (N := some 57) (v := ?_) (a' := ?_) #[true, false, false, false, false, false, false, false, false, false, false, false, false, false, false, false, false] rfl rfl (take_ofW HT_.out HW_.out (by kernel_rfl)) (fun _ _ _ h => h) (Or.inl ⟨by rfl, ?_⟩) hHeld ?_ ?_
               rotate_left
               ·rintro w' ⟨s0, s1, s2⟩
                first | (refine (Ar.load_run rfl Try.underlying67 (by kernel_rfl) rfl (by assumption)).trans ?_; with_reducible rfl) | (go_simp; with_reducible rfl)
               rotate_left
               ·simp only [Act.put, List.setIfInBounds_toArray, List.set_cons_zero, List.set_cons_succ, i64_w, i32_w]
                rfl
               refine take_ (i := 1) (N := some 58) (v := ?_) (a' := ?_) #[true, true, false, false, false, false, false, false, false, false, false, false, false, false, false, false, false] rfl rfl (take_ofW HT_.out HW_.out (by kernel_rfl)) (fun _ _ _ h => h) (Or.inl ⟨by rfl, ?_⟩) hHeld ?_ ?_
               rotate_left
               ·rintro w' ⟨s0, s1, s2⟩
                first | (refine (Ar.load_run rfl Try.underlying67 (by kernel_rfl) rfl (by assumption)).trans ?_; with_reducible rfl) | (go_simp; with_reducible rfl)
               rotate_left
               ·simp only [Act.put, List.setIfInBounds_toArray, List.set_cons_zero, List.set_cons_succ, i64_w, i32_w]
                rfl
               refine take_ (i := 2) (N := some 59) (v := ?_) (a' := ?_) #[true, true, true, false, false, false, false, false, false, false, false, false, false, false, false, false, false] rfl rfl (take_ofW HT_.out HW_.out (by kernel_rfl)) (fun _ _ _ h => h) (Or.inl ⟨by rfl, ?_⟩) hHeld ?_ ?_
               rotate_left
               ·rintro w' ⟨s0, s1, s2⟩
                first | (refine (Ar.load_run rfl Try.underlying67 (by kernel_rfl) rfl (by assumption)).trans ?_; with_reducible rfl) | (go_simp; with_reducible rfl)
               rotate_left
               ·simp only [Act.put, List.setIfInBounds_toArray, List.set_cons_zero, List.set_cons_succ, i64_w, i32_w]
                rfl
               refine take_ (i := 4) (N := some 61) (v := ?_) (a' := ?_) #[true, true, true, false, true, false, false, false, false, false, false, false, false, false, false, false, false] rfl rfl (take_ofW HT_.out HW_.out (by kernel_rfl)) (fun _ _ _ h => h) (Or.inl ⟨by rfl, ?_⟩) hHeld ?_ ?_
               rotate_left
               ·rintro w' ⟨s0, s1, s2⟩
                first | (refine (Ar.load_run rfl Try.underlying67 (by kernel_rfl) rfl (by assumption)).trans ?_; with_reducible rfl) | (go_simp; with_reducible rfl)
               rotate_left
               ·simp only [Act.put, List.setIfInBounds_toArray, List.set_cons_zero, List.set_cons_succ, i64_w, i32_w]
                rfl
               refine one_ (i := 3) (N := some 60) #[true, true, true, true, true, false, false, false, false, false, false, false, false, false, false, false, false] rfl rfl (one_of HT_.out (by kernel_rfl)) (by decide) (fun K hK => ?_)
               refine goes_ Try.func60 (by kernel_rfl) rfl #[.agg (Ar.cells .u64 4 [IntKind.u64.wrap (t165), x5_1, 0, 0]), .agg (Ar.cells .u64 4 [IntKind.u64.wrap (t165), x5_1, 0, 0])] (by rfl) rfl rfl (by (try simp only [List.map_toArray, List.map_cons, List.map_nil]); first | done | rfl | (simp only [List.length_drop, List.length_take]; rfl)) ?_
               with_reducible refine (drawlotlaw04_mul.calls k2 [IntKind.u64.wrap (t165), x5_1, 0, 0] [IntKind.u64.wrap (t165), x5_1, 0, 0] t182 _ A68.out).mono ?_
               rintro e w108 ⟨rfl, hb⟩
               refine ⟨_, rfl, ?_⟩
               have n0_ := Aside0.mk (blk_below (g := gb166) (o := .cells (Ar.cells .u64 4 [IntKind.u64.wrap (t165), x5_1, 0, 0]) 67 (0, 0)) (by (with_reducible repeat (first | refine blk_drewN ?_ _ | refine blk_drew ?_ | refine blk_alloc ?_ _)); exact BK166.out) hb)
               have n1_ := Aside0.mk (blk_below (g := gb167) (o := .cells (Ar.cells .u64 4 [IntKind.u64.wrap ((Ar.get 4 [IntKind.u64.wrap (t165), x5_1, 0, 0] 0) + 1), x5_1, 0, 0]) 67 (0, 0)) (by (with_reducible repeat (first | refine blk_drewN ?_ _ | refine blk_drew ?_ | refine blk_alloc ?_ _)); exact BK167.out) hb)
               have n2_ := Aside0.mk (blk_below (g := gb181) (o := .cells (Ar.cells .u64 4 [0, 0, 0, t164]) 67 (0, 0)) (by (with_reducible repeat (first | refine blk_drewN ?_ _ | refine blk_drew ?_ | refine blk_alloc ?_ _)); exact BK181.out) hb)
               have n3_ := Aside0.mk (below_step (by repeat (first | (with_reducible first | exact HB.out | apply below_alloc | apply pw_below_drewN | apply below_drew1 | refine below_set ?_ GE166.out | refine below_set ?_ GE167.out | refine below_set ?_ GE181.out) | exact HB.out)) hb)
               clear BK166
               clear BK167
               clear BK181
               clear HB
               have BK166 := n0_
               have BK167 := n1_
               have BK181 := n2_
               have HB := n3_
               clear n0_ n1_ n2_ n3_
               (try clear hb)
               (try clear hb2)
               (try clear hk)
               (try clear hi)
               refine hK.out _ _ ⟨BK181.out, BK166.out, BK167.out⟩ (fun hHeld => ?_)
               clear hK K
               refine norm_ (a' := ?_) ?_ ?_
               rotate_left
               ·show Act.put _ (some 60) _ = _
                simp only [Act.put, List.setIfInBounds_toArray, List.set_cons_zero, List.set_cons_succ, i64_w, i32_w]
                rfl
               refine one_ (i := 5) (N := some 62) #[true, true, true, true, true, true, false, false, false, false, false, false, false, false, false, false, false] rfl rfl (one_of HT_.out (by kernel_rfl)) (by decide) (fun K hK => ?_)
               refine goes_ Try.func60 (by kernel_rfl) rfl #[.agg (Ar.cells .u64 4 t182), .agg (Ar.cells .u64 4 [IntKind.u64.wrap (t165), x5_1, 0, 0])] (by rfl) rfl rfl (by (try simp only [List.map_toArray, List.map_cons, List.map_nil]); first | done | rfl | (simp only [List.length_drop, List.length_take]; rfl)) ?_
               with_reducible refine (drawlotlaw04_mul.calls k2 t182 [IntKind.u64.wrap (t165), x5_1, 0, 0] t183 _ A69.out).mono ?_
               rintro e w109 ⟨rfl, hb⟩
               refine ⟨_, rfl, ?_⟩
               have n0_ := Aside0.mk (blk_below (g := gb166) (o := .cells (Ar.cells .u64 4 [IntKind.u64.wrap (t165), x5_1, 0, 0]) 67 (0, 0)) (by (with_reducible repeat (first | refine blk_drewN ?_ _ | refine blk_drew ?_ | refine blk_alloc ?_ _)); exact BK166.out) hb)
               have n1_ := Aside0.mk (blk_below (g := gb167) (o := .cells (Ar.cells .u64 4 [IntKind.u64.wrap ((Ar.get 4 [IntKind.u64.wrap (t165), x5_1, 0, 0] 0) + 1), x5_1, 0, 0]) 67 (0, 0)) (by (with_reducible repeat (first | refine blk_drewN ?_ _ | refine blk_drew ?_ | refine blk_alloc ?_ _)); exact BK167.out) hb)
               have n2_ := Aside0.mk (blk_below (g := gb181) (o := .cells (Ar.cells .u64 4 [0, 0, 0, t164]) 67 (0, 0)) (by (with_reducible repeat (first | refine blk_drewN ?_ _ | refine blk_drew ?_ | refine blk_alloc ?_ _)); exact BK181.out) hb)
               have n3_ := Aside0.mk (below_step (by repeat (first | (with_reducible first | exact HB.out | apply below_alloc | apply pw_below_drewN | apply below_drew1 | refine below_set ?_ GE166.out | refine below_set ?_ GE167.out | refine below_set ?_ GE181.out) | exact HB.out)) hb)
               clear BK166
               clear BK167
               clear BK181
               clear HB
               have BK166 := n0_
               have BK167 := n1_
               have BK181 := n2_
               have HB := n3_
               clear n0_ n1_ n2_ n3_
               (try clear hb)
               (try clear hb2)
               (try clear hk)
               (try clear hi)
               refine hK.out _ _ ⟨BK181.out, BK166.out, BK167.out⟩ (fun hHeld => ?_)
               clear hK K
               refine norm_ (a' := ?_) ?_ ?_
               rotate_left
               ·show Act.put _ (some 62) _ = _
                simp only [Act.put, List.setIfInBounds_toArray, List.set_cons_zero, List.set_cons_succ, i64_w, i32_w]
                rfl
               refine one_ (i := 6) (N := some 63) #[true, true, true, true, true, true, true, false, false, false, false, false, false, false, false, false, false] rfl rfl (one_of HT_.out (by kernel_rfl)) (by decide) (fun K hK => ?_)
               refine goes_ Try.func59 (by kernel_rfl) rfl #[.agg (Ar.cells .u64 4 [0, 0, 0, t164]), .agg (Ar.cells .u64 4 t183)] (by rfl) rfl rfl (by (try simp only [List.map_toArray, List.map_cons, List.map_nil]); first | done | rfl | (simp only [List.length_drop, List.length_take]; rfl)) ?_
               with_reducible refine (drawlotlaw04_less.calls k2 [0, 0, 0, t164] t183 false _ A70.out).mono ?_
               rintro e w110 ⟨rfl, hb⟩
               refine ⟨_, rfl, ?_⟩
               have n0_ := Aside0.mk (blk_below (g := gb166) (o := .cells (Ar.cells .u64 4 [IntKind.u64.wrap (t165), x5_1, 0, 0]) 67 (0, 0)) (by (with_reducible repeat (first | refine blk_drewN ?_ _ | refine blk_drew ?_ | refine blk_alloc ?_ _)); exact BK166.out) hb)
               have n1_ := Aside0.mk (blk_below (g := gb167) (o := .cells (Ar.cells .u64 4 [IntKind.u64.wrap ((Ar.get 4 [IntKind.u64.wrap (t165), x5_1, 0, 0] 0) + 1), x5_1, 0, 0]) 67 (0, 0)) (by (with_reducible repeat (first | refine blk_drewN ?_ _ | refine blk_drew ?_ | refine blk_alloc ?_ _)); exact BK167.out) hb)
               have n2_ := Aside0.mk (blk_below (g := gb181) (o := .cells (Ar.cells .u64 4 [0, 0, 0, t164]) 67 (0, 0)) (by (with_reducible repeat (first | refine blk_drewN ?_ _ | refine blk_drew ?_ | refine blk_alloc ?_ _)); exact BK181.out) hb)
               have n3_ := Aside0.mk (below_step (by repeat (first | (with_reducible first | exact HB.out | apply below_alloc | apply pw_below_drewN | apply below_drew1 | refine below_set ?_ GE166.out | refine below_set ?_ GE167.out | refine below_set ?_ GE181.out) | exact HB.out)) hb)
               clear BK166
               clear BK167
               clear BK181
               clear HB
               have BK166 := n0_
               have BK167 := n1_
               have BK181 := n2_
               have HB := n3_
               clear n0_ n1_ n2_ n3_
               (try clear hb)
               (try clear hb2)
               (try clear hk)
               (try clear hi)
               refine hK.out _ _ ⟨BK181.out, BK166.out, BK167.out⟩ (fun hHeld => ?_)
               clear hK K
               refine norm_ (a' := ?_) ?_ ?_
               rotate_left
               ·show Act.put _ (some 63) _ = _
                simp only [Act.put, List.setIfInBounds_toArray, List.set_cons_zero, List.set_cons_succ, i64_w, i32_w]
                rfl
               refine pure_ (i := 7) (N := some 64) (v := ?_) (a' := ?_) #[true, true, true, true, true, true, true, true, false, false, false, false, false, false, false, false, false] rfl rfl (any_of HT_.out (by kernel_rfl)) (fun _ _ _ h => h) (Or.inl ⟨by rfl, ?_⟩) ?_ ?_
               rotate_left
               ·intro w'
                go_simp
                with_reducible rfl
               rotate_left
               ·simp only [Act.put, List.setIfInBounds_toArray, List.set_cons_zero, List.set_cons_succ, i64_w, i32_w]
                rfl
               refine take_ (i := 8) (N := some 65) (v := ?_) (a' := ?_) #[true, true, true, true, true, true, true, true, true, false, false, false, false, false, false, false, false] rfl rfl (take_ofW HT_.out HW_.out (by kernel_rfl)) (fun _ _ _ h => h) (Or.inl ⟨by rfl, ?_⟩) hHeld ?_ ?_
               rotate_left
               ·rintro w' ⟨s0, s1, s2⟩
                first | (refine (Ar.load_run rfl Try.underlying67 (by kernel_rfl) rfl (by assumption)).trans ?_; with_reducible rfl) | (go_simp; with_reducible rfl)
               rotate_left
               ·simp only [Act.put, List.setIfInBounds_toArray, List.set_cons_zero, List.set_cons_succ, i64_w, i32_w]
                rfl
               refine take_ (i := 9) (N := some 66) (v := ?_) (a' := ?_) #[true, true, true, true, true, true, true, true, true, true, false, false, false, false, false, false, false] rfl rfl (take_ofW HT_.out HW_.out (by kernel_rfl)) (fun _ _ _ h => h) (Or.inl ⟨by rfl, ?_⟩) hHeld ?_ ?_
               rotate_left
               ·rintro w' ⟨s0, s1, s2⟩
                first | (refine (Ar.load_run rfl Try.underlying67 (by kernel_rfl) rfl (by assumption)).trans ?_; with_reducible rfl) | (go_simp; with_reducible rfl)
               rotate_left
               ·simp only [Act.put, List.setIfInBounds_toArray, List.set_cons_zero, List.set_cons_succ, i64_w, i32_w]
                rfl
               refine take_ (i := 10) (N := some 67) (v := ?_) (a' := ?_) #[true, true, true, true, true, true, true, true, true, true, true, false, false, false, false, false, false] rfl rfl (take_ofW HT_.out HW_.out (by kernel_rfl)) (fun _ _ _ h => h) (Or.inl ⟨by rfl, ?_⟩) hHeld ?_ ?_
               rotate_left
               ·rintro w' ⟨s0, s1, s2⟩
                first | (refine (Ar.load_run rfl Try.underlying67 (by kernel_rfl) rfl (by assumption)).trans ?_; with_reducible rfl) | (go_simp; with_reducible rfl)
               rotate_left
               ·simp only [Act.put, List.setIfInBounds_toArray, List.set_cons_zero, List.set_cons_succ, i64_w, i32_w]
                rfl
               refine take_ (i := 12) (N := some 69) (v := ?_) (a' := ?_) #[true, true, true, true, true, true, true, true, true, true, true, false, true, false, false, false, false] rfl rfl (take_ofW HT_.out HW_.out (by kernel_rfl)) (fun _ _ _ h => h) (Or.inl ⟨by rfl, ?_⟩) hHeld ?_ ?_
               rotate_left
               ·rintro w' ⟨s0, s1, s2⟩
                first | (refine (Ar.load_run rfl Try.underlying67 (by kernel_rfl) rfl (by assumption)).trans ?_; with_reducible rfl) | (go_simp; with_reducible rfl)
               rotate_left
               ·simp only [Act.put, List.setIfInBounds_toArray, List.set_cons_zero, List.set_cons_succ, i64_w, i32_w]
                rfl
               refine one_ (i := 11) (N := some 68) #[true, true, true, true, true, true, true, true, true, true, true, true, true, false, false, false, false] rfl rfl (one_of HT_.out (by kernel_rfl)) (by decide) (fun K hK => ?_)
               refine goes_ Try.func60 (by kernel_rfl) rfl #[.agg (Ar.cells .u64 4 [IntKind.u64.wrap ((Ar.get 4 [IntKind.u64.wrap (t165), x5_1, 0, 0] 0) + 1), x5_1, 0, 0]), .agg (Ar.cells .u64 4 [IntKind.u64.wrap ((Ar.get 4 [IntKind.u64.wrap (t165), x5_1, 0, 0] 0) + 1), x5_1, 0, 0])] (by rfl) rfl rfl (by (try simp only [List.map_toArray, List.map_cons, List.map_nil]); first | done | rfl | (simp only [List.length_drop, List.length_take]; rfl)) ?_
               with_reducible refine (drawlotlaw04_mul.calls k2 [IntKind.u64.wrap ((Ar.get 4 [IntKind.u64.wrap (t165), x5_1, 0, 0] 0) + 1), x5_1, 0, 0] [IntKind.u64.wrap ((Ar.get 4 [IntKind.u64.wrap (t165), x5_1, 0, 0] 0) + 1), x5_1, 0, 0] t185 _ A72.out).mono ?_
               rintro e w111 ⟨rfl, hb⟩
               refine ⟨_, rfl, ?_⟩
               have n0_ := Aside0.mk (blk_below (g := gb166) (o := .cells (Ar.cells .u64 4 [IntKind.u64.wrap (t165), x5_1, 0, 0]) 67 (0, 0)) (by (with_reducible repeat (first | refine blk_drewN ?_ _ | refine blk_drew ?_ | refine blk_alloc ?_ _)); exact BK166.out) hb)
               have n1_ := Aside0.mk (blk_below (g := gb167) (o := .cells (Ar.cells .u64 4 [IntKind.u64.wrap ((Ar.get 4 [IntKind.u64.wrap (t165), x5_1, 0, 0] 0) + 1), x5_1, 0, 0]) 67 (0, 0)) (by (with_reducible repeat (first | refine blk_drewN ?_ _ | refine blk_drew ?_ | refine blk_alloc ?_ _)); exact BK167.out) hb)
               have n2_ := Aside0.mk (blk_below (g := gb181) (o := .cells (Ar.cells .u64 4 [0, 0, 0, t164]) 67 (0, 0)) (by (with_reducible repeat (first | refine blk_drewN ?_ _ | refine blk_drew ?_ | refine blk_alloc ?_ _)); exact BK181.out) hb)
               have n3_ := Aside0.mk (below_step (by repeat (first | (with_reducible first | exact HB.out | apply below_alloc | apply pw_below_drewN | apply below_drew1 | refine below_set ?_ GE166.out | refine below_set ?_ GE167.out | refine below_set ?_ GE181.out) | exact HB.out)) hb)
               clear BK166
               clear BK167
               clear BK181
               clear HB
               have BK166 := n0_
               have BK167 := n1_
               have BK181 := n2_
               have HB := n3_
               clear n0_ n1_ n2_ n3_
               (try clear hb)
               (try clear hb2)
               (try clear hk)
               (try clear hi)
               refine hK.out _ _ ⟨BK181.out, BK166.out, BK167.out⟩ (fun hHeld => ?_)
               clear hK K
               refine norm_ (a' := ?_) ?_ ?_
               rotate_left
               ·show Act.put _ (some 68) _ = _
                simp only [Act.put, List.setIfInBounds_toArray, List.set_cons_zero, List.set_cons_succ, i64_w, i32_w]
                rfl
               refine one_ (i := 13) (N := some 70) #[true, true, true, true, true, true, true, true, true, true, true, true, true, true, false, false, false] rfl rfl (one_of HT_.out (by kernel_rfl)) (by decide) (fun K hK => ?_)
               refine goes_ Try.func60 (by kernel_rfl) rfl #[.agg (Ar.cells .u64 4 t185), .agg (Ar.cells .u64 4 [IntKind.u64.wrap ((Ar.get 4 [IntKind.u64.wrap (t165), x5_1, 0, 0] 0) + 1), x5_1, 0, 0])] (by rfl) rfl rfl (by (try simp only [List.map_toArray, List.map_cons, List.map_nil]); first | done | rfl | (simp only [List.length_drop, List.length_take]; rfl)) ?_
               with_reducible refine (drawlotlaw04_mul.calls k2 t185 [IntKind.u64.wrap ((Ar.get 4 [IntKind.u64.wrap (t165), x5_1, 0, 0] 0) + 1), x5_1, 0, 0] t186 _ A73.out).mono ?_
               rintro e w112 ⟨rfl, hb⟩
               refine ⟨_, rfl, ?_⟩
               have n0_ := Aside0.mk (blk_below (g := gb166) (o := .cells (Ar.cells .u64 4 [IntKind.u64.wrap (t165), x5_1, 0, 0]) 67 (0, 0)) (by (with_reducible repeat (first | refine blk_drewN ?_ _ | refine blk_drew ?_ | refine blk_alloc ?_ _)); exact BK166.out) hb)
               have n1_ := Aside0.mk (blk_below (g := gb167) (o := .cells (Ar.cells .u64 4 [IntKind.u64.wrap ((Ar.get 4 [IntKind.u64.wrap (t165), x5_1, 0, 0] 0) + 1), x5_1, 0, 0]) 67 (0, 0)) (by (with_reducible repeat (first | refine blk_drewN ?_ _ | refine blk_drew ?_ | refine blk_alloc ?_ _)); exact BK167.out) hb)
               have n2_ := Aside0.mk (blk_below (g := gb181) (o := .cells (Ar.cells .u64 4 [0, 0, 0, t164]) 67 (0, 0)) (by (with_reducible repeat (first | refine blk_drewN ?_ _ | refine blk_drew ?_ | refine blk_alloc ?_ _)); exact BK181.out) hb)
               have n3_ := Aside0.mk (below_step (by repeat (first | (with_reducible first | exact HB.out | apply below_alloc | apply pw_below_drewN | apply below_drew1 | refine below_set ?_ GE166.out | refine below_set ?_ GE167.out | refine below_set ?_ GE181.out) | exact HB.out)) hb)
               clear BK166
               clear BK167
               clear BK181
               clear HB
               have BK166 := n0_
               have BK167 := n1_
               have BK181 := n2_
               have HB := n3_
               clear n0_ n1_ n2_ n3_
               (try clear hb)
               (try clear hb2)
               (try clear hk)
               (try clear hi)
               refine hK.out _ _ ⟨BK181.out, BK166.out, BK167.out⟩ (fun hHeld => ?_)
               clear hK K
               refine norm_ (a' := ?_) ?_ ?_
               rotate_left
               ·show Act.put _ (some 70) _ = _
                simp only [Act.put, List.setIfInBounds_toArray, List.set_cons_zero, List.set_cons_succ, i64_w, i32_w]
                rfl
               refine one_ (i := 14) (N := some 71) #[true, true, true, true, true, true, true, true, true, true, true, true, true, true, true, false, false] rfl rfl (one_of HT_.out (by kernel_rfl)) (by decide) (fun K hK => ?_)
               refine goes_ Try.func59 (by kernel_rfl) rfl #[.agg (Ar.cells .u64 4 [0, 0, 0, t164]), .agg (Ar.cells .u64 4 t186)] (by rfl) rfl rfl (by (try simp only [List.map_toArray, List.map_cons, List.map_nil]); first | done | rfl | (simp only [List.length_drop, List.length_take]; rfl)) ?_
               with_reducible refine (drawlotlaw04_less.calls k2 [0, 0, 0, t164] t186 true _ A74.out).mono ?_
               rintro e w113 ⟨rfl, hb⟩
               refine ⟨_, rfl, ?_⟩
               have n0_ := Aside0.mk (blk_below (g := gb166) (o := .cells (Ar.cells .u64 4 [IntKind.u64.wrap (t165), x5_1, 0, 0]) 67 (0, 0)) (by (with_reducible repeat (first | refine blk_drewN ?_ _ | refine blk_drew ?_ | refine blk_alloc ?_ _)); exact BK166.out) hb)
               have n1_ := Aside0.mk (blk_below (g := gb167) (o := .cells (Ar.cells .u64 4 [IntKind.u64.wrap ((Ar.get 4 [IntKind.u64.wrap (t165), x5_1, 0, 0] 0) + 1), x5_1, 0, 0]) 67 (0, 0)) (by (with_reducible repeat (first | refine blk_drewN ?_ _ | refine blk_drew ?_ | refine blk_alloc ?_ _)); exact BK167.out) hb)
               have n2_ := Aside0.mk (blk_below (g := gb181) (o := .cells (Ar.cells .u64 4 [0, 0, 0, t164]) 67 (0, 0)) (by (with_reducible repeat (first | refine blk_drewN ?_ _ | refine blk_drew ?_ | refine blk_alloc ?_ _)); exact BK181.out) hb)
               have n3_ := Aside0.mk (below_step (by repeat (first | (with_reducible first | exact HB.out | apply below_alloc | apply pw_below_drewN | apply below_drew1 | refine below_set ?_ GE166.out | refine below_set ?_ GE167.out | refine below_set ?_ GE181.out) | exact HB.out)) hb)
               clear BK166
               clear BK167
               clear BK181
               clear HB
               have BK166 := n0_
               have BK167 := n1_
               have BK181 := n2_
               have HB := n3_
               clear n0_ n1_ n2_ n3_
               (try clear hb)
               (try clear hb2)
               (try clear hk)
               (try clear hi)
               refine hK.out _ _ ⟨BK181.out, BK166.out, BK167.out⟩ (fun hHeld => ?_)
               clear hK K
               refine norm_ (a' := ?_) ?_ ?_
               rotate_left
               ·show Act.put _ (some 71) _ = _
                simp only [Act.put, List.setIfInBounds_toArray, List.set_cons_zero, List.set_cons_succ, i64_w, i32_w]
                rfl
               refine pure_ (i := 15) (N := some 72) (v := ?_) (a' := ?_) #[true, true, true, true, true, true, true, true, true, true, true, true, true, true, true, true, false] rfl rfl (any_of HT_.out (by kernel_rfl)) (fun _ _ _ h => h) (Or.inl ⟨by rfl, ?_⟩) ?_ ?_
               rotate_left
               ·intro w'
                go_simp
                with_reducible rfl
               rotate_left
               ·simp only [Act.put, List.setIfInBounds_toArray, List.set_cons_zero, List.set_cons_succ, i64_w, i32_w]
                rfl
               refine pure_ (i := 16) (N := some 73) (v := ?_) (a' := ?_) #[true, true, true, true, true, true, true, true, true, true, true, true, true, true, true, true, true] rfl rfl (any_of HT_.out (by kernel_rfl)) (fun _ _ _ h => h) (Or.inl ⟨by rfl, ?_⟩) ?_ ?_
               rotate_left
               ·intro w'
                go_simp
                with_reducible rfl
               rotate_left
               ·simp only [Act.put, List.setIfInBounds_toArray, List.set_cons_zero, List.set_cons_succ, i64_w, i32_w]
                rfl
               refine done_ (done_of HT_.out (by kernel_rfl)) ?_
               try go_wp2_with (first | ((with_reducible refine gate_callee (f := 61) rfl ?_); refine goesL_ (some 76) rfl rfl Try.func61 (by kernel_rfl) rfl #[] rfl (by (try simp only [List.map_toArray, List.map_cons, List.map_nil]); first | done | rfl | (simp only [List.length_drop, List.length_take]; rfl)) ?_; (with_reducible refine (comp_Start.calls  t188 _ A91.out).mono ?_); rintro e w114 ⟨rfl, hb⟩; refine ⟨_, rfl, ?_⟩; have n0_ := Aside0.mk (blk_below (g := gb166) (o := .cells (Ar.cells .u64 4 [IntKind.u64.wrap (t165), x5_1, 0, 0]) 67 (0, 0)) (by (with_reducible repeat (first | refine blk_drewN ?_ _ | refine blk_drew ?_ | refine blk_alloc ?_ _)); exact BK166.out) hb); have n1_ := Aside0.mk (blk_below (g := gb167) (o := .cells (Ar.cells .u64 4 [IntKind.u64.wrap ((Ar.get 4 [IntKind.u64.wrap (t165), x5_1, 0, 0] 0) + 1), x5_1, 0, 0]) 67 (0, 0)) (by (with_reducible repeat (first | refine blk_drewN ?_ _ | refine blk_drew ?_ | refine blk_alloc ?_ _)); exact BK167.out) hb); have n2_ := Aside0.mk (blk_below (g := gb181) (o := .cells (Ar.cells .u64 4 [0, 0, 0, t164]) 67 (0, 0)) (by (with_reducible repeat (first | refine blk_drewN ?_ _ | refine blk_drew ?_ | refine blk_alloc ?_ _)); exact BK181.out) hb); have n3_ := Aside0.mk (below_step (by repeat (first | (with_reducible first | exact HB.out | apply below_alloc | apply pw_below_drewN | apply below_drew1 | refine below_set ?_ GE166.out | refine below_set ?_ GE167.out | refine below_set ?_ GE181.out) | exact HB.out)) hb); clear BK166; clear BK167; clear BK181; clear HB; have BK166 := n0_; have BK167 := n1_; have BK181 := n2_; have HB := n3_; clear n0_ n1_ n2_ n3_; (try clear hb); (try clear hb2); (try clear hk); (try clear hi)) | ((with_reducible refine gate_dst (N := 78) rfl ?_); (try (refine gate_guard (by rfl) ?_; dsimp only)); refine Ar.vidx_event rfl (D := 78) rfl (T := 60) rfl Try.underlying60 (by kernel_rfl) Try.underlying22 (k := .u32) (n := 8) (l := t188) (by first | rfl | (go_simp; done) | (go_simp; rfl)) (j := (ji92)) (by first | rfl | (go_simp; done) | (go_simp; rfl)) (of_decide_eq_true (by first | (with_reducible assumption) | assumption)) (of_decide_eq_true (by first | (with_reducible assumption) | assumption)) ?_) | ((with_reducible refine gate_dst (N := 81) rfl ?_); (try (refine gate_guard (by rfl) ?_; dsimp only)); refine Ar.build_event rfl (D := 81) rfl (T := 67) rfl (k := .u64) (n := 4) (l := [IntKind.u64.wrap (Ar.get 8 t188 (ji92)), x6_2, 0, 0]) Try.underlying67 (by kernel_rfl) (by kernel_rfl) [(0, IntKind.u64.wrap (Ar.get 8 t188 (ji92))), (1, x6_2)] (by rfl) (by rfl) (by rfl) ?_) | ((with_reducible refine gate_store (t := 67) (p := 7) rfl ?_); refine Ar.store_all_event rfl rfl rfl Try.underlying67 (by kernel_rfl) (g := gb166) rfl (z := [IntKind.u64.wrap (Ar.get 8 t188 (ji92)), x6_2, 0, 0]) (by first | rfl | (go_simp; done) | (go_simp; rfl)) (by (with_reducible repeat (first | refine blk_drewN ?_ _ | refine blk_drew ?_ | refine blk_alloc ?_ _)); exact BK166.out) ?_; intro w115 hbk_ hg; have n0_ := Aside0.mk (blk_grown (g := gb167) (o := .cells (Ar.cells .u64 4 [IntKind.u64.wrap ((Ar.get 4 [IntKind.u64.wrap (t165), x5_1, 0, 0] 0) + 1), x5_1, 0, 0]) 67 (0, 0)) (by (with_reducible repeat (first | refine blk_drewN ?_ _ | refine blk_drew ?_ | refine blk_alloc ?_ _)); exact BK167.out) hg (fun e_ => NB167_166.out (Option.some.inj e_))); have n1_ := Aside0.mk (blk_grown (g := gb181) (o := .cells (Ar.cells .u64 4 [0, 0, 0, t164]) 67 (0, 0)) (by (with_reducible repeat (first | refine blk_drewN ?_ _ | refine blk_drew ?_ | refine blk_alloc ?_ _)); exact BK181.out) hg (fun e_ => NB181_166.out (Option.some.inj e_))); have n2_ := Aside0.mk (hbk_); have n3_ := Aside0.mk (Below.grown (by repeat (first | (with_reducible first | exact HB.out | apply below_alloc | apply pw_below_drewN | apply below_drew1 | refine below_set ?_ GE166.out | refine below_set ?_ GE167.out | refine below_set ?_ GE181.out) | exact HB.out)) hg ((below_size (by repeat (first | (with_reducible first | exact HB.out | apply below_alloc | apply pw_below_drewN | apply below_drew1 | refine below_set ?_ GE166.out | refine below_set ?_ GE167.out | refine below_set ?_ GE181.out) | exact HB.out)))) (fun _ e_ => by cases e_; exact GE166.out)); clear BK167; clear BK181; clear BK166; clear HB; have BK167 := n0_; have BK181 := n1_; have BK166 := n2_; have HB := n3_; clear n0_ n1_ n2_ n3_; clear hbk_ hg) | ((with_reducible refine gate_dst (N := 82) rfl ?_); (try (refine gate_guard (by rfl) ?_; dsimp only)); refine Ar.idx_event rfl (D := 82) rfl (T := 67) (n := 4) rfl Try.underlying67 (by kernel_rfl) (g := gb166) rfl (j := 0) (by first | rfl | (go_simp; done) | (go_simp; rfl)) (by decide) (by decide) ?_) | ((with_reducible refine gate_dst (N := 83) rfl ?_); (try (refine gate_guard (by rfl) ?_; dsimp only)); refine Ar.get_event rfl (D := 83) rfl (E := 26) rfl Try.underlying26 (g := gb166) (j := 0) rfl (by (with_reducible repeat (first | refine blk_drewN ?_ _ | refine blk_drew ?_ | refine blk_alloc ?_ _)); exact BK166.out) (by decide) (by decide) ?_) | ((with_reducible refine gate_dst (N := 86) rfl ?_); (try (refine gate_guard (by rfl) ?_; dsimp only)); refine Ar.build_event rfl (D := 86) rfl (T := 67) rfl (k := .u64) (n := 4) (l := [IntKind.u64.wrap ((Ar.get 4 [IntKind.u64.wrap (Ar.get 8 t188 (ji92)), x6_2, 0, 0] 0) + 1), x6_2, 0, 0]) Try.underlying67 (by kernel_rfl) (by kernel_rfl) [(0, IntKind.u64.wrap ((Ar.get 4 [IntKind.u64.wrap (Ar.get 8 t188 (ji92)), x6_2, 0, 0] 0) + 1)), (1, x6_2)] (by rfl) (by rfl) (by rfl) ?_) | ((with_reducible refine gate_store (t := 67) (p := 8) rfl ?_); refine Ar.store_all_event rfl rfl rfl Try.underlying67 (by kernel_rfl) (g := gb167) rfl (z := [IntKind.u64.wrap ((Ar.get 4 [IntKind.u64.wrap (Ar.get 8 t188 (ji92)), x6_2, 0, 0] 0) + 1), x6_2, 0, 0]) (by first | rfl | (go_simp; done) | (go_simp; rfl)) (by (with_reducible repeat (first | refine blk_drewN ?_ _ | refine blk_drew ?_ | refine blk_alloc ?_ _)); exact BK167.out) ?_; intro w116 hbk_ hg; have n0_ := Aside0.mk (blk_grown (g := gb166) (o := .cells (Ar.cells .u64 4 [IntKind.u64.wrap (Ar.get 8 t188 (ji92)), x6_2, 0, 0]) 67 (0, 0)) (by (with_reducible repeat (first | refine blk_drewN ?_ _ | refine blk_drew ?_ | refine blk_alloc ?_ _)); exact BK166.out) hg (fun e_ => NB166_167.out (Option.some.inj e_))); have n1_ := Aside0.mk (blk_grown (g := gb181) (o := .cells (Ar.cells .u64 4 [0, 0, 0, t164]) 67 (0, 0)) (by (with_reducible repeat (first | refine blk_drewN ?_ _ | refine blk_drew ?_ | refine blk_alloc ?_ _)); exact BK181.out) hg (fun e_ => NB181_167.out (Option.some.inj e_))); have n2_ := Aside0.mk (hbk_); have n3_ := Aside0.mk (Below.grown (by repeat (first | (with_reducible first | exact HB.out | apply below_alloc | apply pw_below_drewN | apply below_drew1 | refine below_set ?_ GE166.out | refine below_set ?_ GE167.out | refine below_set ?_ GE181.out) | exact HB.out)) hg ((below_size (by repeat (first | (with_reducible first | exact HB.out | apply below_alloc | apply pw_below_drewN | apply below_drew1 | refine below_set ?_ GE166.out | refine below_set ?_ GE167.out | refine below_set ?_ GE181.out) | exact HB.out)))) (fun _ e_ => by cases e_; exact GE167.out)); clear BK166; clear BK181; clear BK167; clear HB; have BK166 := n0_; have BK181 := n1_; have BK167 := n2_; have HB := n3_; clear n0_ n1_ n2_ n3_; clear hbk_ hg) | ((with_reducible refine gate_dst (N := 88) rfl ?_); (try (refine gate_guard (by rfl) ?_; dsimp only)); refine Ar.build_event rfl (D := 88) rfl (T := 67) rfl (k := .u64) (n := 4) (l := [0, 0, t164, 0]) Try.underlying67 (by kernel_rfl) (by kernel_rfl) [(0, 0), (1, 0), (2, t164)] (by rfl) (by rfl) (by rfl) ?_) | ((with_reducible refine gate_dst (N := 10) rfl ?_); (try (refine gate_guard (by rfl) ?_; dsimp only)); refine box_event ?hg (N := 10) ?hd (cs := (Ar.cells .u64 4 (List.replicate 4 0))) (t := 67) ?hr ?_; (case hd => rfl); (case hg => rfl); (case hr => first | exact Ar.box_run rfl rfl | exact Ar.alloc_run rfl (by kernel_rfl) | (go_simp; done) | (go_simp; rfl)); intro gb189 hg w117 hbox hb; have n0_ := Aside0.mk (blk_below (g := gb166) (o := .cells (Ar.cells .u64 4 [IntKind.u64.wrap (Ar.get 8 t188 (ji92)), x6_2, 0, 0]) 67 (0, 0)) (by (with_reducible repeat (first | refine blk_drewN ?_ _ | refine blk_drew ?_ | refine blk_alloc ?_ _)); exact BK166.out) hb); have n1_ := Aside0.mk (blk_below (g := gb167) (o := .cells (Ar.cells .u64 4 [IntKind.u64.wrap ((Ar.get 4 [IntKind.u64.wrap (Ar.get 8 t188 (ji92)), x6_2, 0, 0] 0) + 1), x6_2, 0, 0]) 67 (0, 0)) (by (with_reducible repeat (first | refine blk_drewN ?_ _ | refine blk_drew ?_ | refine blk_alloc ?_ _)); exact BK167.out) hb); have n2_ := Aside0.mk (blk_below (g := gb181) (o := .cells (Ar.cells .u64 4 [0, 0, 0, t164]) 67 (0, 0)) (by (with_reducible repeat (first | refine blk_drewN ?_ _ | refine blk_drew ?_ | refine blk_alloc ?_ _)); exact BK181.out) hb); have n3_ := Aside0.mk (below_step (by repeat (first | (with_reducible first | exact HB.out | apply below_alloc | apply pw_below_drewN | apply below_drew1 | refine below_set ?_ GE166.out | refine below_set ?_ GE167.out | refine below_set ?_ GE181.out) | exact HB.out)) hb); have n4_ := Aside0.mk (hbox); have n5_ := Aside0.mk ((by rw [hg]; exact (below_size (by repeat (first | (with_reducible first | exact HB.out | apply below_alloc | apply pw_below_drewN | apply below_drew1 | refine below_set ?_ GE166.out | refine below_set ?_ GE167.out | refine below_set ?_ GE181.out) | exact HB.out))) : w.heap.size ≤ gb189)); have n6_ := Aside0.mk ((by rw [hg]; exact (below_size (by repeat (first | (with_reducible first | exact HB.out | apply below_alloc | apply pw_below_drewN | apply below_drew1 | refine below_set ?_ GE166.out | refine below_set ?_ GE167.out | refine below_set ?_ GE181.out) | exact HB.out))) : w.heap.size ≤ gb189)); have n7_ := Aside0.mk ((by rw [hg]; exact Nat.ne_of_lt (blk_lt (g := gb166) (o := .cells (Ar.cells .u64 4 [IntKind.u64.wrap (Ar.get 8 t188 (ji92)), x6_2, 0, 0]) 67 (0, 0)) (by (with_reducible repeat (first | refine blk_drewN ?_ _ | refine blk_drew ?_ | refine blk_alloc ?_ _)); exact BK166.out)) : gb166 ≠ gb189)); have n8_ := Aside0.mk ((by rw [hg]; exact Nat.ne_of_gt (blk_lt (g := gb166) (o := .cells (Ar.cells .u64 4 [IntKind.u64.wrap (Ar.get 8 t188 (ji92)), x6_2, 0, 0]) 67 (0, 0)) (by (with_reducible repeat (first | refine blk_drewN ?_ _ | refine blk_drew ?_ | refine blk_alloc ?_ _)); exact BK166.out)) : gb189 ≠ gb166)); have n9_ := Aside0.mk ((by rw [hg]; exact Nat.ne_of_lt (blk_lt (g := gb167) (o := .cells (Ar.cells .u64 4 [IntKind.u64.wrap ((Ar.get 4 [IntKind.u64.wrap (Ar.get 8 t188 (ji92)), x6_2, 0, 0] 0) + 1), x6_2, 0, 0]) 67 (0, 0)) (by (with_reducible repeat (first | refine blk_drewN ?_ _ | refine blk_drew ?_ | refine blk_alloc ?_ _)); exact BK167.out)) : gb167 ≠ gb189)); have n10_ := Aside0.mk ((by rw [hg]; exact Nat.ne_of_gt (blk_lt (g := gb167) (o := .cells (Ar.cells .u64 4 [IntKind.u64.wrap ((Ar.get 4 [IntKind.u64.wrap (Ar.get 8 t188 (ji92)), x6_2, 0, 0] 0) + 1), x6_2, 0, 0]) 67 (0, 0)) (by (with_reducible repeat (first | refine blk_drewN ?_ _ | refine blk_drew ?_ | refine blk_alloc ?_ _)); exact BK167.out)) : gb189 ≠ gb167)); have n11_ := Aside0.mk ((by rw [hg]; exact Nat.ne_of_lt (blk_lt (g := gb181) (o := .cells (Ar.cells .u64 4 [0, 0, 0, t164]) 67 (0, 0)) (by (with_reducible repeat (first | refine blk_drewN ?_ _ | refine blk_drew ?_ | refine blk_alloc ?_ _)); exact BK181.out)) : gb181 ≠ gb189)); have n12_ := Aside0.mk ((by rw [hg]; exact Nat.ne_of_gt (blk_lt (g := gb181) (o := .cells (Ar.cells .u64 4 [0, 0, 0, t164]) 67 (0, 0)) (by (with_reducible repeat (first | refine blk_drewN ?_ _ | refine blk_drew ?_ | refine blk_alloc ?_ _)); exact BK181.out)) : gb189 ≠ gb181)); clear BK166; clear BK167; clear BK181; clear HB; have BK166 := n0_; have BK167 := n1_; have BK181 := n2_; have HB := n3_; have BK189 := n4_; have GW189 := n5_; have GE189 := n6_; have NB166_189 := n7_; have NB189_166 := n8_; have NB167_189 := n9_; have NB189_167 := n10_; have NB181_189 := n11_; have NB189_181 := n12_; clear n0_ n1_ n2_ n3_ n4_ n5_ n6_ n7_ n8_ n9_ n10_ n11_ n12_; clear hb hbox hg) | ((with_reducible refine gate_store (t := 67) (p := 10) rfl ?_); refine Ar.store_all_event rfl rfl rfl Try.underlying67 (by kernel_rfl) (g := gb189) rfl (z := [0, 0, t164, 0]) (by first | rfl | (go_simp; done) | (go_simp; rfl)) (by (with_reducible repeat (first | refine blk_drewN ?_ _ | refine blk_drew ?_ | refine blk_alloc ?_ _)); exact BK189.out) ?_; intro w118 hbk_ hg; have n0_ := Aside0.mk (blk_grown (g := gb166) (o := .cells (Ar.cells .u64 4 [IntKind.u64.wrap (Ar.get 8 t188 (ji92)), x6_2, 0, 0]) 67 (0, 0)) (by (with_reducible repeat (first | refine blk_drewN ?_ _ | refine blk_drew ?_ | refine blk_alloc ?_ _)); exact BK166.out) hg (fun e_ => NB166_189.out (Option.some.inj e_))); have n1_ := Aside0.mk (blk_grown (g := gb167) (o := .cells (Ar.cells .u64 4 [IntKind.u64.wrap ((Ar.get 4 [IntKind.u64.wrap (Ar.get 8 t188 (ji92)), x6_2, 0, 0] 0) + 1), x6_2, 0, 0]) 67 (0, 0)) (by (with_reducible repeat (first | refine blk_drewN ?_ _ | refine blk_drew ?_ | refine blk_alloc ?_ _)); exact BK167.out) hg (fun e_ => NB167_189.out (Option.some.inj e_))); have n2_ := Aside0.mk (blk_grown (g := gb181) (o := .cells (Ar.cells .u64 4 [0, 0, 0, t164]) 67 (0, 0)) (by (with_reducible repeat (first | refine blk_drewN ?_ _ | refine blk_drew ?_ | refine blk_alloc ?_ _)); exact BK181.out) hg (fun e_ => NB181_189.out (Option.some.inj e_))); have n3_ := Aside0.mk (hbk_); have n4_ := Aside0.mk (Below.grown (by repeat (first | (with_reducible first | exact HB.out | apply below_alloc | apply pw_below_drewN | apply below_drew1 | refine below_set ?_ GE166.out | refine below_set ?_ GE167.out | refine below_set ?_ GE181.out | refine below_set ?_ GE189.out) | exact HB.out)) hg ((below_size (by repeat (first | (with_reducible first | exact HB.out | apply below_alloc | apply pw_below_drewN | apply below_drew1 | refine below_set ?_ GE166.out | refine below_set ?_ GE167.out | refine below_set ?_ GE181.out | refine below_set ?_ GE189.out) | exact HB.out)))) (fun _ e_ => by cases e_; exact GE189.out)); clear BK166; clear BK167; clear BK181; clear BK189; clear HB; have BK166 := n0_; have BK167 := n1_; have BK181 := n2_; have BK189 := n3_; have HB := n4_; clear n0_ n1_ n2_ n3_ n4_; clear hbk_ hg))
               have n0_ := Aside0.mk (blk_drew BK166.out)
               have n1_ := Aside0.mk (blk_drew BK167.out)
               have n2_ := Aside0.mk (blk_drew BK181.out)
               have n3_ := Aside0.mk (blk_drew BK189.out)
               have n4_ := Aside0.mk (below_drew1 HB.out)
               clear BK166
               clear BK167
               clear BK181
               clear BK189
               clear HB
               have BK166 := n0_
               have BK167 := n1_
               have BK181 := n2_
               have BK189 := n3_
               have HB := n4_
               clear n0_ n1_ n2_ n3_ n4_
               refine start_ (n := 14) (S := fun w' => w'.heap[gb189]? = some (.cells (Ar.cells .u64 4 [0, 0, t164, 0]) 67 (0, 0)) ∧ w'.heap[gb166]? = some (.cells (Ar.cells .u64 4 [IntKind.u64.wrap (Ar.get 8 t188 (ji92)), x6_2, 0, 0]) 67 (0, 0)) ∧ w'.heap[gb167]? = some (.cells (Ar.cells .u64 4 [IntKind.u64.wrap ((Ar.get 4 [IntKind.u64.wrap (Ar.get 8 t188 (ji92)), x6_2, 0, 0] 0) + 1), x6_2, 0, 0]) 67 (0, 0))) (ds := []) #[false, false, false, false, false, false, false, false, false, false, false, false, false, false] (by kernel_rfl) rfl rfl ⟨BK189.out, BK166.out, BK167.out⟩ (fun hHeld => ?_); refine with_tabW drawlotlaw04_CompRoots.tab22 drawlotlaw04_CompRoots.bits22 (fun HT_ HW_ => ?_)
               generalize w118.drew = w119 at BK166 BK167 BK181 BK189 HB hHeld ⊢
               refine take_ (i := 0) (N := some 89) (v := ?_) (a' := ?_) #[true, false, false, false, false, false, false, false, false, false, false, false, false, false] rfl rfl (take_ofW HT_.out HW_.out (by kernel_rfl)) (fun _ _ _ h => h) (Or.inl ⟨by rfl, ?_⟩) hHeld ?_ ?_
               rotate_left
               ·rintro w' ⟨s0, s1, s2⟩
                first | (refine (Ar.load_run rfl Try.underlying67 (by kernel_rfl) rfl (by assumption)).trans ?_; with_reducible rfl) | (go_simp; with_reducible rfl)
               rotate_left
               ·simp only [Act.put, List.setIfInBounds_toArray, List.set_cons_zero, List.set_cons_succ, i64_w, i32_w]
                rfl
               refine take_ (i := 1) (N := some 90) (v := ?_) (a' := ?_) #[true, true, false, false, false, false, false, false, false, false, false, false, false, false] rfl rfl (take_ofW HT_.out HW_.out (by kernel_rfl)) (fun _ _ _ h => h) (Or.inl ⟨by rfl, ?_⟩) hHeld ?_ ?_
               rotate_left
               ·rintro w' ⟨s0, s1, s2⟩
                first | (refine (Ar.load_run rfl Try.underlying67 (by kernel_rfl) rfl (by assumption)).trans ?_; with_reducible rfl) | (go_simp; with_reducible rfl)
               rotate_left
               ·simp only [Act.put, List.setIfInBounds_toArray, List.set_cons_zero, List.set_cons_succ, i64_w, i32_w]
                rfl
               refine take_ (i := 2) (N := some 91) (v := ?_) (a' := ?_) #[true, true, true, false, false, false, false, false, false, false, false, false, false, false] rfl rfl (take_ofW HT_.out HW_.out (by kernel_rfl)) (fun _ _ _ h => h) (Or.inl ⟨by rfl, ?_⟩) hHeld ?_ ?_
               rotate_left
               ·rintro w' ⟨s0, s1, s2⟩
                first | (refine (Ar.load_run rfl Try.underlying67 (by kernel_rfl) rfl (by assumption)).trans ?_; with_reducible rfl) | (go_simp; with_reducible rfl)
               rotate_left
               ·simp only [Act.put, List.setIfInBounds_toArray, List.set_cons_zero, List.set_cons_succ, i64_w, i32_w]
                rfl
               refine one_ (i := 3) (N := some 92) #[true, true, true, true, false, false, false, false, false, false, false, false, false, false] rfl rfl (one_of HT_.out (by kernel_rfl)) (by decide) (fun K hK => ?_)
               refine goes_ Try.func60 (by kernel_rfl) rfl #[.agg (Ar.cells .u64 4 [IntKind.u64.wrap (Ar.get 8 t188 (ji92)), x6_2, 0, 0]), .agg (Ar.cells .u64 4 [IntKind.u64.wrap (Ar.get 8 t188 (ji92)), x6_2, 0, 0])] (by rfl) rfl rfl (by (try simp only [List.map_toArray, List.map_cons, List.map_nil]); first | done | (simp only [hji92]; rfl) | rfl | (simp only [List.length_drop, List.length_take]; rfl)) ?_
               with_reducible refine (drawlotlaw04_mul.calls k2 [IntKind.u64.wrap (Ar.get 8 t188 (ji92)), x6_2, 0, 0] [IntKind.u64.wrap (Ar.get 8 t188 (ji92)), x6_2, 0, 0] t190 _ A95.out).mono ?_
               rintro e w120 ⟨rfl, hb⟩
               refine ⟨_, rfl, ?_⟩
               have n0_ := Aside0.mk (blk_below (g := gb166) (o := .cells (Ar.cells .u64 4 [IntKind.u64.wrap (Ar.get 8 t188 (ji92)), x6_2, 0, 0]) 67 (0, 0)) (by (with_reducible repeat (first | refine blk_drewN ?_ _ | refine blk_drew ?_ | refine blk_alloc ?_ _)); exact BK166.out) hb)
               have n1_ := Aside0.mk (blk_below (g := gb167) (o := .cells (Ar.cells .u64 4 [IntKind.u64.wrap ((Ar.get 4 [IntKind.u64.wrap (Ar.get 8 t188 (ji92)), x6_2, 0, 0] 0) + 1), x6_2, 0, 0]) 67 (0, 0)) (by (with_reducible repeat (first | refine blk_drewN ?_ _ | refine blk_drew ?_ | refine blk_alloc ?_ _)); exact BK167.out) hb)
               have n2_ := Aside0.mk (blk_below (g := gb181) (o := .cells (Ar.cells .u64 4 [0, 0, 0, t164]) 67 (0, 0)) (by (with_reducible repeat (first | refine blk_drewN ?_ _ | refine blk_drew ?_ | refine blk_alloc ?_ _)); exact BK181.out) hb)
               have n3_ := Aside0.mk (blk_below (g := gb189) (o := .cells (Ar.cells .u64 4 [0, 0, t164, 0]) 67 (0, 0)) (by (with_reducible repeat (first | refine blk_drewN ?_ _ | refine blk_drew ?_ | refine blk_alloc ?_ _)); exact BK189.out) hb)
               have n4_ := Aside0.mk (below_step (by repeat (first | (with_reducible first | exact HB.out | apply below_alloc | apply pw_below_drewN | apply below_drew1 | refine below_set ?_ GE166.out | refine below_set ?_ GE167.out | refine below_set ?_ GE181.out | refine below_set ?_ GE189.out) | exact HB.out)) hb)
               clear BK166
               clear BK167
               clear BK181
               clear BK189
               clear HB
               have BK166 := n0_
               have BK167 := n1_
               have BK181 := n2_
               have BK189 := n3_
               have HB := n4_
               clear n0_ n1_ n2_ n3_ n4_
               (try clear hb)
               (try clear hb2)
               (try clear hk)
               (try clear hi)
               refine hK.out _ _ ⟨BK189.out, BK166.out, BK167.out⟩ (fun hHeld => ?_)
               clear hK K
               refine norm_ (a' := ?_) ?_ ?_
               rotate_left
               ·show Act.put _ (some 92) _ = _
                simp only [Act.put, List.setIfInBounds_toArray, List.set_cons_zero, List.set_cons_succ, i64_w, i32_w]
                rfl
               refine one_ (i := 4) (N := some 93) #[true, true, true, true, true, false, false, false, false, false, false, false, false, false] rfl rfl (one_of HT_.out (by kernel_rfl)) (by decide) (fun K hK => ?_)
               refine goes_ Try.func59 (by kernel_rfl) rfl #[.agg (Ar.cells .u64 4 [0, 0, t164, 0]), .agg (Ar.cells .u64 4 t190)] (by rfl) rfl rfl (by (try simp only [List.map_toArray, List.map_cons, List.map_nil]); first | done | rfl | (simp only [List.length_drop, List.length_take]; rfl)) ?_
               with_reducible refine (drawlotlaw04_less.calls k2 [0, 0, t164, 0] t190 false _ A96.out).mono ?_
               rintro e w121 ⟨rfl, hb⟩
               refine ⟨_, rfl, ?_⟩
               have n0_ := Aside0.mk (blk_below (g := gb166) (o := .cells (Ar.cells .u64 4 [IntKind.u64.wrap (Ar.get 8 t188 (ji92)), x6_2, 0, 0]) 67 (0, 0)) (by (with_reducible repeat (first | refine blk_drewN ?_ _ | refine blk_drew ?_ | refine blk_alloc ?_ _)); exact BK166.out) hb)
               have n1_ := Aside0.mk (blk_below (g := gb167) (o := .cells (Ar.cells .u64 4 [IntKind.u64.wrap ((Ar.get 4 [IntKind.u64.wrap (Ar.get 8 t188 (ji92)), x6_2, 0, 0] 0) + 1), x6_2, 0, 0]) 67 (0, 0)) (by (with_reducible repeat (first | refine blk_drewN ?_ _ | refine blk_drew ?_ | refine blk_alloc ?_ _)); exact BK167.out) hb)
               have n2_ := Aside0.mk (blk_below (g := gb181) (o := .cells (Ar.cells .u64 4 [0, 0, 0, t164]) 67 (0, 0)) (by (with_reducible repeat (first | refine blk_drewN ?_ _ | refine blk_drew ?_ | refine blk_alloc ?_ _)); exact BK181.out) hb)
               have n3_ := Aside0.mk (blk_below (g := gb189) (o := .cells (Ar.cells .u64 4 [0, 0, t164, 0]) 67 (0, 0)) (by (with_reducible repeat (first | refine blk_drewN ?_ _ | refine blk_drew ?_ | refine blk_alloc ?_ _)); exact BK189.out) hb)
               have n4_ := Aside0.mk (below_step (by repeat (first | (with_reducible first | exact HB.out | apply below_alloc | apply pw_below_drewN | apply below_drew1 | refine below_set ?_ GE166.out | refine below_set ?_ GE167.out | refine below_set ?_ GE181.out | refine below_set ?_ GE189.out) | exact HB.out)) hb)
               clear BK166
               clear BK167
               clear BK181
               clear BK189
               clear HB
               have BK166 := n0_
               have BK167 := n1_
               have BK181 := n2_
               have BK189 := n3_
               have HB := n4_
               clear n0_ n1_ n2_ n3_ n4_
               (try clear hb)
               (try clear hb2)
               (try clear hk)
               (try clear hi)
               refine hK.out _ _ ⟨BK189.out, BK166.out, BK167.out⟩ (fun hHeld => ?_)
               clear hK K
               refine norm_ (a' := ?_) ?_ ?_
               rotate_left
               ·show Act.put _ (some 93) _ = _
                simp only [Act.put, List.setIfInBounds_toArray, List.set_cons_zero, List.set_cons_succ, i64_w, i32_w]
                rfl
               refine pure_ (i := 5) (N := some 94) (v := ?_) (a' := ?_) #[true, true, true, true, true, true, false, false, false, false, false, false, false, false] rfl rfl (any_of HT_.out (by kernel_rfl)) (fun _ _ _ h => h) (Or.inl ⟨by rfl, ?_⟩) ?_ ?_
               rotate_left
               ·intro w'
                go_simp
                with_reducible rfl
               rotate_left
               ·simp only [Act.put, List.setIfInBounds_toArray, List.set_cons_zero, List.set_cons_succ, i64_w, i32_w]
                rfl
               refine pure_ (i := 6) (N := some 95) (v := ?_) (a' := ?_) #[true, true, true, true, true, true, true, false, false, false, false, false, false, false] rfl rfl (any_of HT_.out (by kernel_rfl)) (fun _ _ _ h => h) (Or.inl ⟨by rfl, ?_⟩) ?_ ?_
               rotate_left
               ·intro w'
                go_simp
                with_reducible rfl
               rotate_left
               ·simp only [Act.put, List.setIfInBounds_toArray, List.set_cons_zero, List.set_cons_succ, i64_w, i32_w]
                rfl
               refine take_ (i := 7) (N := some 96) (v := ?_) (a' := ?_) #[true, true, true, true, true, true, true, true, false, false, false, false, false, false] rfl rfl (take_ofW HT_.out HW_.out (by kernel_rfl)) (fun _ _ _ h => h) (Or.inl ⟨by rfl, ?_⟩) hHeld ?_ ?_
               rotate_left
               ·rintro w' ⟨s0, s1, s2⟩
                first | (refine (Ar.load_run rfl Try.underlying67 (by kernel_rfl) rfl (by assumption)).trans ?_; with_reducible rfl) | (go_simp; with_reducible rfl)
               rotate_left
               ·simp only [Act.put, List.setIfInBounds_toArray, List.set_cons_zero, List.set_cons_succ, i64_w, i32_w]
                rfl
               refine take_ (i := 8) (N := some 97) (v := ?_) (a' := ?_) #[true, true, true, true, true, true, true, true, true, false, false, false, false, false] rfl rfl (take_ofW HT_.out HW_.out (by kernel_rfl)) (fun _ _ _ h => h) (Or.inl ⟨by rfl, ?_⟩) hHeld ?_ ?_
               rotate_left
               ·rintro w' ⟨s0, s1, s2⟩
                first | (refine (Ar.load_run rfl Try.underlying67 (by kernel_rfl) rfl (by assumption)).trans ?_; with_reducible rfl) | (go_simp; with_reducible rfl)
               rotate_left
               ·simp only [Act.put, List.setIfInBounds_toArray, List.set_cons_zero, List.set_cons_succ, i64_w, i32_w]
                rfl
               refine take_ (i := 9) (N := some 98) (v := ?_) (a' := ?_) #[true, true, true, true, true, true, true, true, true, true, false, false, false, false] rfl rfl (take_ofW HT_.out HW_.out (by kernel_rfl)) (fun _ _ _ h => h) (Or.inl ⟨by rfl, ?_⟩) hHeld ?_ ?_
               rotate_left
               ·rintro w' ⟨s0, s1, s2⟩
                first | (refine (Ar.load_run rfl Try.underlying67 (by kernel_rfl) rfl (by assumption)).trans ?_; with_reducible rfl) | (go_simp; with_reducible rfl)
               rotate_left
               ·simp only [Act.put, List.setIfInBounds_toArray, List.set_cons_zero, List.set_cons_succ, i64_w, i32_w]
                rfl
               refine one_ (i := 10) (N := some 99) #[true, true, true, true, true, true, true, true, true, true, true, false, false, false] rfl rfl (one_of HT_.out (by kernel_rfl)) (by decide) (fun K hK => ?_)
               refine goes_ Try.func60 (by kernel_rfl) rfl #[.agg (Ar.cells .u64 4 [IntKind.u64.wrap ((Ar.get 4 [IntKind.u64.wrap (Ar.get 8 t188 (ji92)), x6_2, 0, 0] 0) + 1), x6_2, 0, 0]), .agg (Ar.cells .u64 4 [IntKind.u64.wrap ((Ar.get 4 [IntKind.u64.wrap (Ar.get 8 t188 (ji92)), x6_2, 0, 0] 0) + 1), x6_2, 0, 0])] (by rfl) rfl rfl (by (try simp only [List.map_toArray, List.map_cons, List.map_nil]); first | done | (simp only [hji92]; rfl) | rfl | (simp only [List.length_drop, List.length_take]; rfl)) ?_
               with_reducible refine (drawlotlaw04_mul.calls k2 [IntKind.u64.wrap ((Ar.get 4 [IntKind.u64.wrap (Ar.get 8 t188 (ji92)), x6_2, 0, 0] 0) + 1), x6_2, 0, 0] [IntKind.u64.wrap ((Ar.get 4 [IntKind.u64.wrap (Ar.get 8 t188 (ji92)), x6_2, 0, 0] 0) + 1), x6_2, 0, 0] t192 _ A98.out).mono ?_
               rintro e w122 ⟨rfl, hb⟩
               refine ⟨_, rfl, ?_⟩
               have n0_ := Aside0.mk (blk_below (g := gb166) (o := .cells (Ar.cells .u64 4 [IntKind.u64.wrap (Ar.get 8 t188 (ji92)), x6_2, 0, 0]) 67 (0, 0)) (by (with_reducible repeat (first | refine blk_drewN ?_ _ | refine blk_drew ?_ | refine blk_alloc ?_ _)); exact BK166.out) hb)
               have n1_ := Aside0.mk (blk_below (g := gb167) (o := .cells (Ar.cells .u64 4 [IntKind.u64.wrap ((Ar.get 4 [IntKind.u64.wrap (Ar.get 8 t188 (ji92)), x6_2, 0, 0] 0) + 1), x6_2, 0, 0]) 67 (0, 0)) (by (with_reducible repeat (first | refine blk_drewN ?_ _ | refine blk_drew ?_ | refine blk_alloc ?_ _)); exact BK167.out) hb)
               have n2_ := Aside0.mk (blk_below (g := gb181) (o := .cells (Ar.cells .u64 4 [0, 0, 0, t164]) 67 (0, 0)) (by (with_reducible repeat (first | refine blk_drewN ?_ _ | refine blk_drew ?_ | refine blk_alloc ?_ _)); exact BK181.out) hb)
               have n3_ := Aside0.mk (blk_below (g := gb189) (o := .cells (Ar.cells .u64 4 [0, 0, t164, 0]) 67 (0, 0)) (by (with_reducible repeat (first | refine blk_drewN ?_ _ | refine blk_drew ?_ | refine blk_alloc ?_ _)); exact BK189.out) hb)
               have n4_ := Aside0.mk (below_step (by repeat (first | (with_reducible first | exact HB.out | apply below_alloc | apply pw_below_drewN | apply below_drew1 | refine below_set ?_ GE166.out | refine below_set ?_ GE167.out | refine below_set ?_ GE181.out | refine below_set ?_ GE189.out) | exact HB.out)) hb)
               clear BK166
               clear BK167
               clear BK181
               clear BK189
               clear HB
               have BK166 := n0_
               have BK167 := n1_
               have BK181 := n2_
               have BK189 := n3_
               have HB := n4_
               clear n0_ n1_ n2_ n3_ n4_
               (try clear hb)
               (try clear hb2)
               (try clear hk)
               (try clear hi)
               refine hK.out _ _ ⟨BK189.out, BK166.out, BK167.out⟩ (fun hHeld => ?_)
               clear hK K
               refine norm_ (a' := ?_) ?_ ?_
               rotate_left
               ·show Act.put _ (some 99) _ = _
                simp only [Act.put, List.setIfInBounds_toArray, List.set_cons_zero, List.set_cons_succ, i64_w, i32_w]
                rfl
               refine one_ (i := 11) (N := some 100) #[true, true, true, true, true, true, true, true, true, true, true, true, false, false] rfl rfl (one_of HT_.out (by kernel_rfl)) (by decide) (fun K hK => ?_)
               refine goes_ Try.func59 (by kernel_rfl) rfl #[.agg (Ar.cells .u64 4 [0, 0, t164, 0]), .agg (Ar.cells .u64 4 t192)] (by rfl) rfl rfl (by (try simp only [List.map_toArray, List.map_cons, List.map_nil]); first | done | rfl | (simp only [List.length_drop, List.length_take]; rfl)) ?_
               with_reducible refine (drawlotlaw04_less.calls k2 [0, 0, t164, 0] t192 t193 _ A99.out).mono ?_
               rintro e w123 ⟨rfl, hb⟩
               refine ⟨_, rfl, ?_⟩
               have n0_ := Aside0.mk (blk_below (g := gb166) (o := .cells (Ar.cells .u64 4 [IntKind.u64.wrap (Ar.get 8 t188 (ji92)), x6_2, 0, 0]) 67 (0, 0)) (by (with_reducible repeat (first | refine blk_drewN ?_ _ | refine blk_drew ?_ | refine blk_alloc ?_ _)); exact BK166.out) hb)
               have n1_ := Aside0.mk (blk_below (g := gb167) (o := .cells (Ar.cells .u64 4 [IntKind.u64.wrap ((Ar.get 4 [IntKind.u64.wrap (Ar.get 8 t188 (ji92)), x6_2, 0, 0] 0) + 1), x6_2, 0, 0]) 67 (0, 0)) (by (with_reducible repeat (first | refine blk_drewN ?_ _ | refine blk_drew ?_ | refine blk_alloc ?_ _)); exact BK167.out) hb)
               have n2_ := Aside0.mk (blk_below (g := gb181) (o := .cells (Ar.cells .u64 4 [0, 0, 0, t164]) 67 (0, 0)) (by (with_reducible repeat (first | refine blk_drewN ?_ _ | refine blk_drew ?_ | refine blk_alloc ?_ _)); exact BK181.out) hb)
               have n3_ := Aside0.mk (blk_below (g := gb189) (o := .cells (Ar.cells .u64 4 [0, 0, t164, 0]) 67 (0, 0)) (by (with_reducible repeat (first | refine blk_drewN ?_ _ | refine blk_drew ?_ | refine blk_alloc ?_ _)); exact BK189.out) hb)
               have n4_ := Aside0.mk (below_step (by repeat (first | (with_reducible first | exact HB.out | apply below_alloc | apply pw_below_drewN | apply below_drew1 | refine below_set ?_ GE166.out | refine below_set ?_ GE167.out | refine below_set ?_ GE181.out | refine below_set ?_ GE189.out) | exact HB.out)) hb)
               clear BK166
               clear BK167
               clear BK181
               clear BK189
               clear HB
               have BK166 := n0_
               have BK167 := n1_
               have BK181 := n2_
               have BK189 := n3_
               have HB := n4_
               clear n0_ n1_ n2_ n3_ n4_
               (try clear hb)
               (try clear hb2)
               (try clear hk)
               (try clear hi)
               refine hK.out _ _ ⟨BK189.out, BK166.out, BK167.out⟩ (fun hHeld => ?_)
               clear hK K
               refine norm_ (a' := ?_) ?_ ?_
               rotate_left
               ·show Act.put _ (some 100) _ = _
                simp only [Act.put, List.setIfInBounds_toArray, List.set_cons_zero, List.set_cons_succ, i64_w, i32_w]
                rfl
               refine pure_ (i := 12) (N := some 101) (v := ?_) (a' := ?_) #[true, true, true, true, true, true, true, true, true, true, true, true, true, false] rfl rfl (any_of HT_.out (by kernel_rfl)) (fun _ _ _ h => h) (Or.inl ⟨by rfl, ?_⟩) ?_ ?_
               rotate_left
               ·intro w'
                go_simp
                with_reducible rfl
               rotate_left
               ·simp only [Act.put, List.setIfInBounds_toArray, List.set_cons_zero, List.set_cons_succ, i64_w, i32_w]
                rfl
               refine pure_ (i := 13) (N := some 2) (v := ?_) (a' := ?_) #[true, true, true, true, true, true, true, true, true, true, true, true, true, true] rfl rfl (any_of HT_.out (by kernel_rfl)) (fun _ _ _ h => h) (Or.inl ⟨by rfl, ?_⟩) ?_ ?_
               rotate_left
               ·intro w'
                go_simp
                with_reducible rfl
               rotate_left
               ·simp only [Act.put, List.setIfInBounds_toArray, List.set_cons_zero, List.set_cons_succ, i64_w, i32_w]
                rfl
               refine done_ (done_of HT_.out (by kernel_rfl)) ?_
               try go_wp2
               go_ret
               exact ⟨by first | rfl | (simp [errW_none, errW_some] <;> rfl) | (simp only [← hji92]; first | rfl | (simp [errW_none, errW_some] <;> rfl)) | (simp [*, errW_none, errW_some] <;> rfl), by repeat (first | (with_reducible first | exact HB.out | apply below_alloc | apply pw_below_drewN | apply below_drew1 | refine below_set ?_ GE166.out | refine below_set ?_ GE167.out | refine below_set ?_ GE181.out | refine below_set ?_ GE189.out) | exact HB.out)⟩
             ·rw [if_neg c94] at H
              exact absurd H (by simp)
            ·rw [if_neg c93] at H
             exact absurd H (by simp)
          ·replace c75 := Bool.eq_false_iff.mpr c75
           subst c75
           have H1 : (none) = some r := by rw [if_neg (show ¬ (false = true) by decide)] at H; exact H
           clear H
           have H := H1
           clear H1
           exact absurd H (by simp)
 ·replace c3 := Bool.eq_false_iff.mpr c3
  subst c3
  have H1 : (none) = some r := by rw [if_neg (show ¬ (false = true) by decide)] at H; exact H
  clear H
  have H := H1
  clear H1
  exact absurd H (by simp)

/-- THE ONE PURE STATEMENT of drawlotlaw04_CompRoots: yours. -/
def drawlotlaw04_CompRoots.Pure : Prop := ∀ (a0 : Int), (Lit.int .u8 a0).wf = true → ∃ k, drawlotlaw04_CompRoots.f k a0 = some true
theorem drawlotlaw04_CompRoots.walk (P : drawlotlaw04_CompRoots.Pure) (a0 : Int) (w : World) (w0 : (Lit.int .u8 a0).wf = true) :
  Calls Try.prog 16 #[.int .u8 a0] w fun e w' => e = .returned (.bool true) ∧ Below w.heap.size w w' := by
 obtain ⟨k, h⟩ := P a0 w0
 refine (drawlotlaw04_CompRoots.calls k a0 true w h).mono ?_
 rintro e w' ⟨rfl, hd⟩
 exact ⟨rfl, hd⟩

end Go.Proofs.Ytpkdpdbcgbeakaa.PR
