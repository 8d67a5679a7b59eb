/- Written by xprint.py, this session's own driver, for the seat Ytbafkkbbjacekaa: contracts of Go functions, each saying that a call answers what a plain Lean function of the same name says, and, in a text named Law, the row of a law: its Go function answers true for every input. No conditions. -/
import Derived.Test.YtbafkkbbjacekaaPBx0
import Derived.Test.YtbafkkbbjacekaaPBx6
namespace Go.Proofs.Ytbafkkbbjacekaa.PB
open Go.RowKit Go.Proofs.YtbafkkbbjacekaaW.PrintWords Go.Proofs.YtbafkkbbjacekaaW.PrintLast Go.Proofs.YtbafkkbbjacekaaW.PrintMore
attribute [local go_sem] max2_int min2_int max_two min_two max_three min_three max_four min_four   -- for this text's walks alone
set_option linter.unusedVariables false
set_option linter.unusedSimpArgs false

/-! ### drawlotref14_Build: function 15 -/
mutual
def drawlotref14_Build.l0 : Nat → List Int → Int → Int → List Int → List (S62) → List Int → List Int → Int → Option (Int × (List (S62)) × Int)
 | 0, _, _, _, _, _, _, _, _ => none
 | k + 1, x0, x4, x6, x9, x10, x11, x12, x13 => if x13 < (x0.length : Int) then (if 0 ≤ x13 then (if x13 < (x9.length : Int) then ((some (x9.set (x13 : Int).toNat (IntKind.u64.wrap (x6 * (rd x0 x13))) : List Int)).bind fun y203 => (if x13 < (x10.length : Int) then ((some (x10.set (x13 : Int).toNat (⟨x4, x13⟩ : S62) : List (S62))).bind fun y204 => (if (rd y203 x13) < x4 then (if x11.length < 17592186044416 then (drawlotref14_Build.l0 k x0 x4 x6 y203 y204 (x11 ++ [x13]) x12 (wrap64 (x13 + 1))) else (none)) else (if x12.length < 17592186044416 then (drawlotref14_Build.l0 k x0 x4 x6 y203 y204 x11 (x12 ++ [x13]) (wrap64 (x13 + 1))) else (none)))) else (none))) else (none)) else (none)) else (drawlotref14_Build.l1 k x4 x9 x10 x11 x12)
def drawlotref14_Build.l1 : Nat → Int → List Int → List (S62) → List Int → List Int → Option (Int × (List (S62)) × Int)
 | 0, _, _, _, _, _ => none
 | k + 1, x4, x9, x10, x11, x12 => if (x11.length : Int) > 0 then (drawlotref14_Build.j2 k x4 x9 x10 x11 x12 (decide ((x12.length : Int) > 0))) else (drawlotref14_Build.j2 k x4 x9 x10 x11 x12 false)
def drawlotref14_Build.j2 : Nat → Int → List Int → List (S62) → List Int → List Int → Bool → Option (Int × (List (S62)) × Int)
 | 0, _, _, _, _, _, _ => none
 | k + 1, x4, x9, x10, x11, x12, x91 => if x91 = true then (if 0 ≤ (wrap64 ((x11.length : Int) - 1)) then (if (wrap64 ((x11.length : Int) - 1)) < (x11.length : Int) then (if 0 ≤ (wrap64 ((x12.length : Int) - 1)) then (if (wrap64 ((x12.length : Int) - 1)) < (x12.length : Int) then (if (wrap64 ((x11.length : Int) - 1)) ≤ (x11.length : Int) then ((some (x11.take ((wrap64 ((x11.length : Int) - 1)) : Int).toNat : List Int)).bind fun y214 => (if (wrap64 ((x12.length : Int) - 1)) ≤ (x12.length : Int) then ((some (x12.take ((wrap64 ((x12.length : Int) - 1)) : Int).toNat : List Int)).bind fun y217 => (if 0 ≤ (rd x11 (wrap64 ((x11.length : Int) - 1))) then (if (rd x11 (wrap64 ((x11.length : Int) - 1))) < (x9.length : Int) then (if (rd x11 (wrap64 ((x11.length : Int) - 1))) < (x10.length : Int) then ((some (x10.set ((rd x11 (wrap64 ((x11.length : Int) - 1))) : Int).toNat (⟨rd x9 (rd x11 (wrap64 ((x11.length : Int) - 1))), rd x12 (wrap64 ((x12.length : Int) - 1))⟩ : S62) : List (S62))).bind fun y221 => (if 0 ≤ (rd x12 (wrap64 ((x12.length : Int) - 1))) then (if (rd x12 (wrap64 ((x12.length : Int) - 1))) < (x9.length : Int) then ((some (x9.set ((rd x12 (wrap64 ((x12.length : Int) - 1))) : Int).toNat (IntKind.u64.wrap ((rd x9 (rd x12 (wrap64 ((x12.length : Int) - 1)))) - (IntKind.u64.wrap (x4 - (rd x9 (rd x11 (wrap64 ((x11.length : Int) - 1)))))))) : List Int)).bind fun y224 => (if (IntKind.u64.wrap ((rd x9 (rd x12 (wrap64 ((x12.length : Int) - 1)))) - (IntKind.u64.wrap (x4 - (rd x9 (rd x11 (wrap64 ((x11.length : Int) - 1)))))))) < x4 then (if y214.length < 17592186044416 then (drawlotref14_Build.l1 k x4 y224 y221 (y214 ++ [rd x12 (wrap64 ((x12.length : Int) - 1))]) y217) else (none)) else (if y217.length < 17592186044416 then (drawlotref14_Build.l1 k x4 y224 y221 y214 (y217 ++ [rd x12 (wrap64 ((x12.length : Int) - 1))])) else (none)))) else (none)) else (none))) else (none)) else (none)) else (none))) else (none))) else (none)) else (none)) else (none)) else (none)) else (none)) else (some (x4, x10, 0))
end
def drawlotref14_Build.f (k : Nat) (l0 : List Int) : Option (Int × (List (S62)) × Int) := if (l0.length : Int) = 0 then (some (0, ([] : List (S62)), 10)) else ((drawlotref09_Total.f k l0).bind fun bt192 => (if bt192.2 = true then (if bt192.1 = 0 then (some (0, ([] : List (S62)), 10)) else ((drawlotref09_Mul.f k (IntKind.u64.wrap ((l0.length : Int))) bt192.1).bind fun bt194 => (if bt194.2 = true then (if 0 ≤ (l0.length : Int) then (if ((l0.length : Int) : Int).toNat ≤ 35184372088832 then (if ((l0.length : Int) : Int).toNat ≤ 17592186044416 then (drawlotref14_Build.l0 k l0 bt192.1 (IntKind.u64.wrap ((l0.length : Int))) (List.replicate ((l0.length : Int) : Int).toNat 0) (List.replicate ((l0.length : Int) : Int).toNat z62) ([] : List Int) ([] : List Int) 0) else (none)) else (none)) else (none)) else (some (0, ([] : List (S62)), 11))))) else (some (0, ([] : List (S62)), 11))))
theorem drawlotref14_Build.mono_l : ∀ k, (∀ y0 y1 y2 y3 y4 y5 y6 y7, LeO (drawlotref14_Build.l0 k y0 y1 y2 y3 y4 y5 y6 y7) (drawlotref14_Build.l0 (k + 1) y0 y1 y2 y3 y4 y5 y6 y7)) ∧ (∀ y0 y1 y2 y3 y4, LeO (drawlotref14_Build.l1 k y0 y1 y2 y3 y4) (drawlotref14_Build.l1 (k + 1) y0 y1 y2 y3 y4)) ∧ (∀ y0 y1 y2 y3 y4 y5, LeO (drawlotref14_Build.j2 k y0 y1 y2 y3 y4 y5) (drawlotref14_Build.j2 (k + 1) y0 y1 y2 y3 y4 y5))
 | 0 => ⟨fun _ _ _ _ _ _ _ _ r h => by simp [drawlotref14_Build.l0] at h, fun _ _ _ _ _ r h => by simp [drawlotref14_Build.l1] at h, fun _ _ _ _ _ _ r h => by simp [drawlotref14_Build.j2] at h⟩
 | k + 1 => by
  obtain ⟨ih0, ih1, ih2⟩ := drawlotref14_Build.mono_l k
  refine ⟨?_, ?_, ?_⟩
  ·intro y0 y1 y2 y3 y4 y5 y6 y7
   unfold drawlotref14_Build.l0
   repeat' first
   | (with_reducible exact ih0 _ _ _ _ _ _ _ _)
   | (with_reducible exact ih1 _ _ _ _ _)
   | (with_reducible exact ih2 _ _ _ _ _ _)
   | (with_reducible exact drawlotref09_Mul.mono _ _ _)
   | (with_reducible exact drawlotref09_Total.mono _ _)
   | (with_reducible exact LeO.refl _)
   | (with_reducible exact LeO.none _)
   | (with_reducible refine LeO.ite ?_ ?_)
   | (with_reducible refine LeO.bind ?_ (fun _ => ?_))
   | exact ih0 _ _ _ _ _ _ _ _
   | exact ih1 _ _ _ _ _
   | exact ih2 _ _ _ _ _ _
   | exact drawlotref09_Mul.mono _ _ _
   | exact drawlotref09_Total.mono _ _
   | exact LeO.none _
   | refine LeO.ite ?_ ?_
   | refine LeO.bind ?_ (fun _ => ?_)
  ·intro y0 y1 y2 y3 y4
   unfold drawlotref14_Build.l1
   repeat' first
   | (with_reducible exact ih0 _ _ _ _ _ _ _ _)
   | (with_reducible exact ih1 _ _ _ _ _)
   | (with_reducible exact ih2 _ _ _ _ _ _)
   | (with_reducible exact drawlotref09_Mul.mono _ _ _)
   | (with_reducible exact drawlotref09_Total.mono _ _)
   | (with_reducible exact LeO.refl _)
   | (with_reducible exact LeO.none _)
   | (with_reducible refine LeO.ite ?_ ?_)
   | (with_reducible refine LeO.bind ?_ (fun _ => ?_))
   | exact ih0 _ _ _ _ _ _ _ _
   | exact ih1 _ _ _ _ _
   | exact ih2 _ _ _ _ _ _
   | exact drawlotref09_Mul.mono _ _ _
   | exact drawlotref09_Total.mono _ _
   | exact LeO.none _
   | refine LeO.ite ?_ ?_
   | refine LeO.bind ?_ (fun _ => ?_)
  ·intro y0 y1 y2 y3 y4 y5
   unfold drawlotref14_Build.j2
   repeat' first
   | (with_reducible exact ih0 _ _ _ _ _ _ _ _)
   | (with_reducible exact ih1 _ _ _ _ _)
   | (with_reducible exact ih2 _ _ _ _ _ _)
   | (with_reducible exact drawlotref09_Mul.mono _ _ _)
   | (with_reducible exact drawlotref09_Total.mono _ _)
   | (with_reducible exact LeO.refl _)
   | (with_reducible exact LeO.none _)
   | (with_reducible refine LeO.ite ?_ ?_)
   | (with_reducible refine LeO.bind ?_ (fun _ => ?_))
   | exact ih0 _ _ _ _ _ _ _ _
   | exact ih1 _ _ _ _ _
   | exact ih2 _ _ _ _ _ _
   | exact drawlotref09_Mul.mono _ _ _
   | exact drawlotref09_Total.mono _ _
   | exact LeO.none _
   | refine LeO.ite ?_ ?_
   | refine LeO.bind ?_ (fun _ => ?_)
theorem drawlotref14_Build.mono : ∀ a0 k, LeO (drawlotref14_Build.f k a0) (drawlotref14_Build.f (k + 1) a0) := by
 intro a0 k
 obtain ⟨ih0, ih1, ih2⟩ := drawlotref14_Build.mono_l k
 unfold drawlotref14_Build.f
 repeat' first
   | (with_reducible exact ih0 _ _ _ _ _ _ _ _)
   | (with_reducible exact ih1 _ _ _ _ _)
   | (with_reducible exact ih2 _ _ _ _ _ _)
   | (with_reducible exact drawlotref09_Mul.mono _ _ _)
   | (with_reducible exact drawlotref09_Total.mono _ _)
   | (with_reducible exact LeO.refl _)
   | (with_reducible exact LeO.none _)
   | (with_reducible refine LeO.ite ?_ ?_)
   | (with_reducible refine LeO.bind ?_ (fun _ => ?_))
   | exact ih0 _ _ _ _ _ _ _ _
   | exact ih1 _ _ _ _ _
   | exact ih2 _ _ _ _ _ _
   | exact drawlotref09_Mul.mono _ _ _
   | exact drawlotref09_Total.mono _ _
   | exact LeO.none _
   | refine LeO.ite ?_ ?_
   | refine LeO.bind ?_ (fun _ => ?_)
def drawlotref14_Build.T24 : Bool × List (List Nat × List Nat) := (true, [([], []), ([], []), ([1], [1]), ([2], [2]), ([0, 3], [0, 3]), ([4], [4]), ([], []), ([], []), ([7], [7]), ([8], [8]), ([6, 9], [6, 9]), ([10], [10]), ([5, 0, 1, 2, 3, 4, 5], [5]), ([11, 12, 0, 1, 2, 3, 4, 5, 6, 7, 8, 9, 10, 11, 12], [11])])
def drawlotref14_Build.B24 : List Nat := [0, 0, 2, 6, 15, 31, 0, 0, 128, 384, 960, 1984, 63, 8191]
theorem drawlotref14_Build.tab24 : rtab .any (opsOf Try.f15 24) = drawlotref14_Build.T24 := by kernel_rfl
theorem drawlotref14_Build.bits24 : waitsOk drawlotref14_Build.T24.2 drawlotref14_Build.B24 = true := by kernel_rfl
def drawlotref14_Build.T25 : Bool × List (List Nat × List Nat) := (true, [([], []), ([], []), ([1], [1]), ([2], [2]), ([0, 3], [0, 3]), ([], []), ([], []), ([6], [6]), ([7], [7]), ([5, 8], [5, 8]), ([4, 0, 1, 2, 3, 4], [0, 1, 4]), ([9, 10, 0, 1, 2, 3, 4, 5, 6, 7, 8, 9, 10], [5, 6, 9])])
def drawlotref14_Build.B25 : List Nat := [0, 0, 2, 6, 15, 0, 0, 64, 192, 480, 31, 2047]
theorem drawlotref14_Build.tab25 : rtab .any (opsOf Try.f15 25) = drawlotref14_Build.T25 := by kernel_rfl
theorem drawlotref14_Build.bits25 : waitsOk drawlotref14_Build.T25.2 drawlotref14_Build.B25 = true := by kernel_rfl
def drawlotref14_Build.T27 : Bool × List (List Nat × List Nat) := (true, [([], []), ([], []), ([], []), ([], []), ([2, 3], [2, 3]), ([4], [4]), ([], []), ([], []), ([], []), ([7, 8], [7, 8]), ([9], [9]), ([6, 10], [6, 10]), ([5, 11], [5, 11]), ([0, 1, 0, 1, 2, 3, 4, 5, 6, 7, 8, 9, 10, 11, 12], [0, 1]), ([13, 12, 0, 1, 2, 3, 4, 5, 6, 7, 8, 9, 10, 11, 12], [12, 13])])
def drawlotref14_Build.B27 : List Nat := [0, 0, 0, 0, 12, 28, 0, 0, 0, 384, 896, 1984, 4092, 8191, 16383]
theorem drawlotref14_Build.tab27 : rtab .any (opsOf Try.f15 27) = drawlotref14_Build.T27 := by kernel_rfl
theorem drawlotref14_Build.bits27 : waitsOk drawlotref14_Build.T27.2 drawlotref14_Build.B27 = true := by kernel_rfl
set_option maxHeartbeats 8000000 in
set_option maxRecDepth 100000 in
theorem drawlotref14_Build.calls (k : Nat) (A0 : Option Addr) (c0 : Nat) (l0 : List Int) (r1 : Int) (r2 : List (S62)) (r3 : Int) (w : World) (hr0 : Kd.C (Kd.int .u64) w A0 l0.length l0) (hc0 : l0.length ≤ c0) (h : drawlotref14_Build.f k l0 = some (r1, r2, r3)) :
  Calls Try.prog 15 #[.slice A0 l0.length c0] w fun e w' => ∃ v1_ : Value, e = .returned (.tuple #[.agg #[.int .u64 r1, v1_], .int .i64 r3]) ∧ Kd.R k62 62 w' w.heap.size (fun _ => True) v1_ r2 ∧ Below w.heap.size w w' := by
 have hu27 := Try.underlying27
 have hu62 := Try.underlying62
 have HR0 := Aside0.mk hr0
 have HC0 := Aside0.mk hc0
 clear hr0 hc0
 have HB := Aside0.mk (Below.refl w.heap.size w)
 have H : (if (l0.length : Int) = 0 then (some (0, ([] : List (S62)), 10)) else ((drawlotref09_Total.f k l0).bind fun bt192 => (if bt192.2 = true then (if bt192.1 = 0 then (some (0, ([] : List (S62)), 10)) else ((drawlotref09_Mul.f k (IntKind.u64.wrap ((l0.length : Int))) bt192.1).bind fun bt194 => (if bt194.2 = true then (if 0 ≤ (l0.length : Int) then (if ((l0.length : Int) : Int).toNat ≤ 35184372088832 then (if ((l0.length : Int) : Int).toNat ≤ 17592186044416 then (drawlotref14_Build.l0 k l0 bt192.1 (IntKind.u64.wrap ((l0.length : Int))) (List.replicate ((l0.length : Int) : Int).toNat 0) (List.replicate ((l0.length : Int) : Int).toNat z62) ([] : List Int) ([] : List Int) 0) else (none)) else (none)) else (none)) else (some (0, ([] : List (S62)), 11))))) else (some (0, ([] : List (S62)), 11))))) = some (r1, r2, r3) := h
 clear h
 by_cases c2 : (l0.length : Int) = 0
 ·rw [if_pos c2] at H
  have c2b0 : ((l0.length : Int) == 0) = true := beq_iff_eq.mpr c2
  have c2b1 : ((l0.length : Int) != 0) = false := bne_eq_false_iff_eq.mpr c2
  clear c2
  simp only [Option.some.injEq, Prod.mk.injEq] at H
  obtain ⟨rfl, rfl, rfl⟩ := H
  go_enter Try.func15, Try.ntmps15
  try simp only [List.append]
  go_wp2_with (first | ((with_reducible refine gate_dst (N := 2) rfl ?_); (try (refine gate_guard (by rfl) ?_; dsimp only)); refine box_event ?hg (N := 2) ?hd (cs := #[.int .u64 0, .slice none 0 0]) (t := 27) ?hr ?_; (case hd => rfl); (case hg => rfl); (case hr => first | (go_simp; done) | (go_simp; rfl)); intro gb191 hg w3 hbox hb; have n0_ := Aside0.mk (below_step (by repeat (first | (with_reducible first | exact HB.out | apply below_alloc | apply pw_below_drewN | apply below_drew1) | exact HB.out)) hb); have n1_ := Aside0.mk (hbox); have n2_ := Aside0.mk ((by rw [hg]; exact (below_size (by repeat (first | (with_reducible first | exact HB.out | apply below_alloc | apply pw_below_drewN | apply below_drew1) | exact HB.out))) : w.heap.size ≤ gb191)); have n3_ := Aside0.mk ((by rw [hg]; exact (below_size (by repeat (first | (with_reducible first | exact HB.out | apply below_alloc | apply pw_below_drewN | apply below_drew1) | exact HB.out))) : w.heap.size ≤ gb191)); clear HB; have HB := n0_; have BK191 := n1_; have GW191 := n2_; have GE191 := n3_; clear n0_ n1_ n2_ n3_; clear hb hbox hg; have hcz4_0 : w3.cell? ⟨gb191, 0, none⟩ = some (.int .u64 0) := (blk_cell BK191.out 0).trans rfl; have hcz4_1 : w3.cell? ⟨gb191, 1, none⟩ = some (.slice none 0 0) := (blk_cell BK191.out 1).trans rfl; have hfz4_0 := blk_frozen BK191.out 0; have hfz4_1 := blk_frozen BK191.out 1))
  refine bodyPost_ret (results_ct rfl _ _ gb191 27 #[.int .u64 0, .slice none 0 0] (0, 0) _ rfl (by (with_reducible repeat (first | refine blk_drewN ?_ _ | refine blk_drew ?_ | refine blk_alloc ?_ _)); refine blk_put (cs := #[.int .u64 0, .slice none 0 0]) ?_ 1 _ rfl; (with_reducible repeat (first | refine blk_drewN ?_ _ | refine blk_drew ?_ | refine blk_alloc ?_ _)); refine blk_put (cs := #[.int .u64 0, .slice none 0 0]) ?_ 0 _ rfl; (with_reducible repeat (first | refine blk_drewN ?_ _ | refine blk_drew ?_ | refine blk_alloc ?_ _)); exact BK191.out) Try.underlying27 rfl (by first | (rw [Ar.cells_size]; kernel_rfl) | kernel_rfl)) rfl ?_
  exact ⟨_, by first | rfl | (simp [errW_none, errW_some] <;> rfl) | (simp [*, errW_none, errW_some] <;> rfl), by first | exact Kd.R_nil _ _ _ _ _ | exact Kd.N_nil _ _ _ _ _ | exact Kd.V_nil _ _ _ _ _ | exact Kd.Q_nil _ _ _ _ _ | exact Kd.S_nil _ _ _ _ _, by repeat (first | (with_reducible first | exact HB.out | apply below_alloc | apply pw_below_drewN | apply below_drew1 | refine below_set ?_ GE191.out) | exact HB.out)⟩
 ·rw [if_neg c2] at H
  have c2b0 : ((l0.length : Int) == 0) = false := beq_eq_false_iff_ne.mpr c2
  have c2b1 : ((l0.length : Int) != 0) = true := bne_iff_ne.mpr c2
  have c2b2 : ¬ (l0 = []) := fun h_ => c2 (by rw [h_]; rfl)
  replace H := Option.bind_eq_some_iff.mp H
  obtain ⟨⟨t192, t193⟩, A50, H⟩ := H
  replace H : (if t193 = true then (if t192 = 0 then (some (0, ([] : List (S62)), 10)) else ((drawlotref09_Mul.f k (IntKind.u64.wrap ((l0.length : Int))) t192).bind fun bt194 => (if bt194.2 = true then (if 0 ≤ (l0.length : Int) then (if ((l0.length : Int) : Int).toNat ≤ 35184372088832 then (if ((l0.length : Int) : Int).toNat ≤ 17592186044416 then (drawlotref14_Build.l0 k l0 t192 (IntKind.u64.wrap ((l0.length : Int))) (List.replicate ((l0.length : Int) : Int).toNat 0) (List.replicate ((l0.length : Int) : Int).toNat z62) ([] : List Int) ([] : List Int) 0) else (none)) else (none)) else (none)) else (some (0, ([] : List (S62)), 11))))) else (some (0, ([] : List (S62)), 11))) = some (r1, r2, r3) := H
  have A5 := Aside0.mk A50
  clear A50
  by_cases c6 : t193 = true
  ·subst c6
   have H1 : (if t192 = 0 then (some (0, ([] : List (S62)), 10)) else ((drawlotref09_Mul.f k (IntKind.u64.wrap ((l0.length : Int))) t192).bind fun bt194 => (if bt194.2 = true then (if 0 ≤ (l0.length : Int) then (if ((l0.length : Int) : Int).toNat ≤ 35184372088832 then (if ((l0.length : Int) : Int).toNat ≤ 17592186044416 then (drawlotref14_Build.l0 k l0 t192 (IntKind.u64.wrap ((l0.length : Int))) (List.replicate ((l0.length : Int) : Int).toNat 0) (List.replicate ((l0.length : Int) : Int).toNat z62) ([] : List Int) ([] : List Int) 0) else (none)) else (none)) else (none)) else (some (0, ([] : List (S62)), 11))))) = some (r1, r2, r3) := by rw [if_pos rfl] at H; exact H
   clear H
   have H := H1
   clear H1
   by_cases c7 : t192 = 0
   ·rw [if_pos c7] at H
    have c7b0 : (t192 == 0) = true := beq_iff_eq.mpr c7
    have c7b1 : (t192 != 0) = false := bne_eq_false_iff_eq.mpr c7
    clear c7
    simp only [Option.some.injEq, Prod.mk.injEq] at H
    obtain ⟨rfl, rfl, rfl⟩ := H
    go_enter Try.func15, Try.ntmps15
    try simp only [List.append]
    go_wp2_with (first | ((with_reducible refine gate_dst (N := 2) rfl ?_); (try (refine gate_guard (by rfl) ?_; dsimp only)); refine box_event ?hg (N := 2) ?hd (cs := #[.int .u64 0, .slice none 0 0]) (t := 27) ?hr ?_; (case hd => rfl); (case hg => rfl); (case hr => first | (go_simp; done) | (go_simp; rfl)); intro gb191 hg w8 hbox hb; have n0_ := Aside0.mk (below_step (by repeat (first | (with_reducible first | exact HB.out | apply below_alloc | apply pw_below_drewN | apply below_drew1) | exact HB.out)) hb); have n1_ := Aside0.mk (hbox); have n2_ := Aside0.mk ((by rw [hg]; exact (below_size (by repeat (first | (with_reducible first | exact HB.out | apply below_alloc | apply pw_below_drewN | apply below_drew1) | exact HB.out))) : w.heap.size ≤ gb191)); have n3_ := Aside0.mk ((by rw [hg]; exact (below_size (by repeat (first | (with_reducible first | exact HB.out | apply below_alloc | apply pw_below_drewN | apply below_drew1) | exact HB.out))) : w.heap.size ≤ gb191)); clear HB; have HB := n0_; have BK191 := n1_; have GW191 := n2_; have GE191 := n3_; clear n0_ n1_ n2_ n3_; clear hb hbox hg) | ((with_reducible refine gate_callee (f := 45) rfl ?_); refine goesL_ (some 22) rfl rfl Try.func45 (by kernel_rfl) rfl #[.slice A0 l0.length c0] rfl (by (try simp only [List.map_toArray, List.map_cons, List.map_nil]); first | done | rfl | (simp only [List.length_drop, List.length_take]; rfl)) ?_; (with_reducible refine (drawlotref09_Total.calls k _ _ l0 t192 true _ ?side1 ?side2 A5.out).mono ?_); (case side1 => repeat (first | exact (Kd.C_below HR0.out HB.out) | (with_reducible refine Kd.C_alloc ?_ _) | (with_reducible refine Kd.C_drewN ?_ _) | (with_reducible refine Kd.C_drew ?_))); (case side2 => exact HC0.out); rintro e w' ⟨rfl, ⟨nd, rfl⟩⟩; refine ⟨_, rfl, ?_⟩; (try (rw [drewN_self w8]; generalize hq_ : World.drewN w8 _ = w8; have n0_ : Aside0 (w8.heap[gb191]? = some (.cells #[.int .u64 0, .slice none 0 0] 27 (0, 0))) := ⟨by rw [← hq_]; exact (by (with_reducible repeat (first | refine blk_drewN ?_ _ | refine blk_drew ?_ | refine blk_alloc ?_ _)); exact BK191.out)⟩; have n1_ : Aside0 (Below w.heap.size w w8) := ⟨by rw [← hq_]; exact (by repeat (first | (with_reducible first | exact HB.out | apply below_alloc | apply pw_below_drewN | apply below_drew1 | refine below_set ?_ GE191.out) | exact HB.out))⟩; clear BK191 HB hq_; have BK191 := n0_; have HB := n1_; clear n0_ n1_)); have hcz9_0 : w8.cell? ⟨gb191, 0, none⟩ = some (.int .u64 0) := (blk_cell BK191.out 0).trans rfl; have hcz9_1 : w8.cell? ⟨gb191, 1, none⟩ = some (.slice none 0 0) := (blk_cell BK191.out 1).trans rfl; have hfz9_0 := blk_frozen BK191.out 0; have hfz9_1 := blk_frozen BK191.out 1))
    refine bodyPost_ret (results_ct rfl _ _ gb191 27 #[.int .u64 0, .slice none 0 0] (0, 0) _ rfl (by (with_reducible repeat (first | refine blk_drewN ?_ _ | refine blk_drew ?_ | refine blk_alloc ?_ _)); refine blk_put (cs := #[.int .u64 0, .slice none 0 0]) ?_ 1 _ rfl; (with_reducible repeat (first | refine blk_drewN ?_ _ | refine blk_drew ?_ | refine blk_alloc ?_ _)); refine blk_put (cs := #[.int .u64 0, .slice none 0 0]) ?_ 0 _ rfl; (with_reducible repeat (first | refine blk_drewN ?_ _ | refine blk_drew ?_ | refine blk_alloc ?_ _)); exact BK191.out) Try.underlying27 rfl (by first | (rw [Ar.cells_size]; kernel_rfl) | kernel_rfl)) rfl ?_
    exact ⟨_, by first | rfl | (simp [errW_none, errW_some] <;> rfl) | (simp [*, errW_none, errW_some] <;> rfl), by first | exact Kd.R_nil _ _ _ _ _ | exact Kd.N_nil _ _ _ _ _ | exact Kd.V_nil _ _ _ _ _ | exact Kd.Q_nil _ _ _ _ _ | exact Kd.S_nil _ _ _ _ _, by repeat (first | (with_reducible first | exact HB.out | apply below_alloc | apply pw_below_drewN | apply below_drew1 | refine below_set ?_ GE191.out) | exact HB.out)⟩
   ·rw [if_neg c7] at H
    have c7b0 : (t192 == 0) = false := beq_eq_false_iff_ne.mpr c7
    have c7b1 : (t192 != 0) = true := bne_iff_ne.mpr c7
    replace H := Option.bind_eq_some_iff.mp H
    obtain ⟨⟨t194, t195⟩, A100, H⟩ := H
    replace H : (if t195 = true then (if 0 ≤ (l0.length : Int) then (if ((l0.length : Int) : Int).toNat ≤ 35184372088832 then (if ((l0.length : Int) : Int).toNat ≤ 17592186044416 then (drawlotref14_Build.l0 k l0 t192 (IntKind.u64.wrap ((l0.length : Int))) (List.replicate ((l0.length : Int) : Int).toNat 0) (List.replicate ((l0.length : Int) : Int).toNat z62) ([] : List Int) ([] : List Int) 0) else (none)) else (none)) else (none)) else (some (0, ([] : List (S62)), 11))) = some (r1, r2, r3) := H
    have A10 := Aside0.mk A100
    clear A100
    by_cases c11 : t195 = true
    ·subst c11
     have H1 : (if 0 ≤ (l0.length : Int) then (if ((l0.length : Int) : Int).toNat ≤ 35184372088832 then (if ((l0.length : Int) : Int).toNat ≤ 17592186044416 then (drawlotref14_Build.l0 k l0 t192 (IntKind.u64.wrap ((l0.length : Int))) (List.replicate ((l0.length : Int) : Int).toNat 0) (List.replicate ((l0.length : Int) : Int).toNat z62) ([] : List Int) ([] : List Int) 0) else (none)) else (none)) else (none)) = some (r1, r2, r3) := by rw [if_pos rfl] at H; exact H
     clear H
     have H := H1
     clear H1
     by_cases c12 : 0 ≤ (l0.length : Int)
     ·rw [if_pos c12] at H
      have c12b0 := eq_true c12
      have c12b1 : decide (0 ≤ (l0.length : Int)) = true := decide_eq_true c12
      clear c12
      by_cases c13 : ((l0.length : Int) : Int).toNat ≤ 35184372088832
      ·rw [if_pos c13] at H
       have c13b0 := eq_true c13
       have c13b1 : decide (((l0.length : Int) : Int).toNat ≤ 35184372088832) = true := decide_eq_true c13
       clear c13
       obtain ⟨y196, hy196⟩ : ∃ y_ : List Int, y_ = (List.replicate ((l0.length : Int) : Int).toNat 0) := ⟨_, rfl⟩
       replace H : (if ((l0.length : Int) : Int).toNat ≤ 17592186044416 then (drawlotref14_Build.l0 k l0 t192 (IntKind.u64.wrap ((l0.length : Int))) y196 (List.replicate ((l0.length : Int) : Int).toNat z62) ([] : List Int) ([] : List Int) 0) else (none)) = some (r1, r2, r3) := by first | (rw [hy196]; with_reducible exact H) | (have H2_ := (Option.bind_some _ _).symm.trans H; rw [hy196]; with_reducible exact H2_) | (have H2_ := (Option.bind_some _ _).symm.trans H; with_reducible exact H2_) | with_reducible exact H | (rw [hy196]; exact H) | exact H
       have Ny196 := Aside0.mk hy196
       clear hy196
       by_cases c14 : ((l0.length : Int) : Int).toNat ≤ 17592186044416
       ·rw [if_pos c14] at H
        have c14b0 := eq_true c14
        have c14b1 : decide (((l0.length : Int) : Int).toNat ≤ 17592186044416) = true := decide_eq_true c14
        clear c14
        obtain ⟨y199, hy199⟩ : ∃ y_ : List (S62), y_ = (List.replicate ((l0.length : Int) : Int).toNat z62) := ⟨_, rfl⟩
        replace H : (drawlotref14_Build.l0 k l0 t192 (IntKind.u64.wrap ((l0.length : Int))) y196 y199 ([] : List Int) ([] : List Int) 0) = some (r1, r2, r3) := by first | (rw [hy199]; with_reducible exact H) | (have H2_ := (Option.bind_some _ _).symm.trans H; rw [hy199]; with_reducible exact H2_) | (have H2_ := (Option.bind_some _ _).symm.trans H; with_reducible exact H2_) | with_reducible exact H | (rw [hy199]; exact H) | exact H
        have Ny199 := Aside0.mk hy199
        clear hy199
        have H' := Aside0.mk H
        clear H
        go_enter Try.func15, Try.ntmps15
        try simp only [List.append]
        go_wp2_with (first | ((with_reducible refine gate_dst (N := 2) rfl ?_); (try (refine gate_guard (by rfl) ?_; dsimp only)); refine box_event ?hg (N := 2) ?hd (cs := #[.int .u64 0, .slice none 0 0]) (t := 27) ?hr ?_; (case hd => rfl); (case hg => rfl); (case hr => first | (go_simp; done) | (go_simp; rfl)); intro gb191 hg w15 hbox hb; have n0_ := Aside0.mk (below_step (by repeat (first | (with_reducible first | exact HB.out | apply below_alloc | apply pw_below_drewN | apply below_drew1) | exact HB.out)) hb); have n1_ := Aside0.mk (hbox); have n2_ := Aside0.mk ((by rw [hg]; exact (below_size (by repeat (first | (with_reducible first | exact HB.out | apply below_alloc | apply pw_below_drewN | apply below_drew1) | exact HB.out))) : w.heap.size ≤ gb191)); have n3_ := Aside0.mk ((by rw [hg]; exact (below_size (by repeat (first | (with_reducible first | exact HB.out | apply below_alloc | apply pw_below_drewN | apply below_drew1) | exact HB.out))) : w.heap.size ≤ gb191)); clear HB; have HB := n0_; have BK191 := n1_; have GW191 := n2_; have GE191 := n3_; clear n0_ n1_ n2_ n3_; clear hb hbox hg) | ((with_reducible refine gate_callee (f := 45) rfl ?_); refine goesL_ (some 22) rfl rfl Try.func45 (by kernel_rfl) rfl #[.slice A0 l0.length c0] rfl (by (try simp only [List.map_toArray, List.map_cons, List.map_nil]); first | done | rfl | (simp only [List.length_drop, List.length_take]; rfl)) ?_; (with_reducible refine (drawlotref09_Total.calls k _ _ l0 t192 true _ ?side1 ?side2 A5.out).mono ?_); (case side1 => repeat (first | exact (Kd.C_below HR0.out HB.out) | (with_reducible refine Kd.C_alloc ?_ _) | (with_reducible refine Kd.C_drewN ?_ _) | (with_reducible refine Kd.C_drew ?_))); (case side2 => exact HC0.out); rintro e w' ⟨rfl, ⟨nd, rfl⟩⟩; refine ⟨_, rfl, ?_⟩) | ((with_reducible refine gate_callee (f := 52) rfl ?_); refine goesL_ (some 37) rfl rfl Try.func52 (by kernel_rfl) rfl #[.int .u64 (IntKind.u64.wrap ((l0.length : Int))), .int .u64 t192] rfl (by (try simp only [List.map_toArray, List.map_cons, List.map_nil]); first | done | rfl | (simp only [List.length_drop, List.length_take]; rfl)) ?_; (with_reducible refine (drawlotref09_Mul.calls k (IntKind.u64.wrap ((l0.length : Int))) t192 t194 true _ A10.out).mono ?_); rintro e w' ⟨rfl, ⟨nd, rfl⟩⟩; refine ⟨_, rfl, ?_⟩) | ((with_reducible refine gate_dst (N := 45) rfl ?_); (try (refine gate_guard (by rfl) ?_; dsimp only)); refine Kd.R_make (Kd.int .u64) _ 24 rfl (N := 45) rfl 22 _ _ rfl (l0.length : Int) rfl rfl Try.underlying22 (.int .u64 0) 8 info24 rfl (by decide) (by omega) 0 (ok := fun _ => True) (okp := fun _ => True) rfl (fun _ hk => hk) trivial (of_decide_eq_true (by first | (with_reducible assumption) | assumption)) (Nat.le_trans (Nat.mul_le_mul_right _ (of_decide_eq_true (by first | (with_reducible assumption) | assumption) : (l0.length : Int).toNat ≤ 35184372088832)) (by omega)) (Below.refl _ _) (Nat.le_refl _) ?_; intro v197 w16 ho17 hb hg_ hnew_; clear hg_ hnew_; (first | rw [← Ny196.out] at ho17 | (simp only [Int.reduceToNat] at ho17; rw [← Ny196.out] at ho17)); have n0_ := Aside0.mk (Kd.R_lower ho17 (below_size (by repeat (first | (with_reducible first | exact HB.out | apply below_alloc | apply pw_below_drewN | apply below_drew1 | refine below_set ?_ GE191.out) | exact HB.out)))); have n1_ := Aside0.mk (blk_below (g := gb191) (o := .cells #[.int .u64 0, .slice none 0 0] 27 (0, 0)) (by (with_reducible repeat (first | refine blk_drewN ?_ _ | refine blk_drew ?_ | refine blk_alloc ?_ _)); exact BK191.out) hb); have n2_ := Aside0.mk (below_step (by repeat (first | (with_reducible first | exact HB.out | apply below_alloc | apply pw_below_drewN | apply below_drew1 | refine below_set ?_ GE191.out) | exact HB.out)) hb); clear BK191; clear HB; have HO198 := n0_; have BK191 := n1_; have HB := n2_; clear n0_ n1_ n2_; clear hb ho17) | ((with_reducible refine gate_dst (N := 48) rfl ?_); (try (refine gate_guard (by rfl) ?_; dsimp only)); refine Kd.R_make k62 _ 62 rfl (N := 48) rfl 25 _ _ rfl (l0.length : Int) rfl rfl Try.underlying25 (.agg #[(.int .u64 0), (.int .i64 0)]) 16 info62 rfl (by decide) (by omega) z62 (ok := fun _ => True) (okp := fun _ => True) (k62_mkM _ _ _ z62 ) (fun _ hk => hk) trivial (of_decide_eq_true (by first | (with_reducible assumption) | assumption)) (Nat.le_trans (Nat.mul_le_mul_right _ (of_decide_eq_true (by first | (with_reducible assumption) | assumption) : (l0.length : Int).toNat ≤ 17592186044416)) (by omega)) (Below.refl _ _) (Nat.le_refl _) ?_; intro v200 w18 ho19 hb hg_ hnew_; clear hg_ hnew_; (first | rw [← Ny199.out] at ho19 | (simp only [Int.reduceToNat] at ho19; rw [← Ny199.out] at ho19)); have n0_ := Aside0.mk (Kd.R_below (by (with_reducible repeat (first | apply Kd.R_alloc | apply Kd.R_drewN | apply Kd.R_drew)); exact HO198.out) hb); have n1_ := Aside0.mk (Kd.R_lower ho19 (below_size (by repeat (first | (with_reducible first | exact HB.out | apply below_alloc | apply pw_below_drewN | apply below_drew1 | refine below_set ?_ GE191.out) | exact HB.out)))); have n2_ := Aside0.mk (blk_below (g := gb191) (o := .cells #[.int .u64 0, .slice none 0 0] 27 (0, 0)) (by (with_reducible repeat (first | refine blk_drewN ?_ _ | refine blk_drew ?_ | refine blk_alloc ?_ _)); exact BK191.out) hb); have n3_ := Aside0.mk (below_step (by repeat (first | (with_reducible first | exact HB.out | apply below_alloc | apply pw_below_drewN | apply below_drew1 | refine below_set ?_ GE191.out) | exact HB.out)) hb); clear HO198; clear BK191; clear HB; have HO198 := n0_; have HO201 := n1_; have BK191 := n2_; have HB := n3_; clear n0_ n1_ n2_ n3_; clear hb ho19))
        go_loopg [11, 12, 13] k (fun kq v11 v12 v13 w' => ∃ (x9_1 : List Int) (x10_1 : List (S62)) (x11_1 : List Int) (x12_1 : List Int) (x13_1 : Int), v13 = .int .i64 x13_1 ∧ Aside0 (drawlotref14_Build.l0 kq l0 t192 (IntKind.u64.wrap ((l0.length : Int))) x9_1 x10_1 x11_1 x12_1 x13_1 = some (r1, r2, r3)) ∧ Aside0 (kq ≤ k) ∧ Aside0 (Kd.R (Kd.int .u64) 24 w' w.heap.size (fun _ => True) v197 x9_1) ∧ Aside0 (Kd.R k62 62 w' w.heap.size (fun _ => True) v200 x10_1) ∧ Aside0 (Kd.R (Kd.int .i64) 3 w' w.heap.size (fun k_ => some k_ ≠ (v12 : Value).ownBlock) v11 x11_1) ∧ Aside0 (Kd.R (Kd.int .i64) 3 w' w.heap.size (fun k_ => some k_ ≠ (v11 : Value).ownBlock) v12 x12_1) ∧ Aside0 (w'.heap[gb191]? = some (.cells #[.int .u64 0, (.slice none 0 0)] 27 (0, 0))) ∧ Aside0 (Below w.heap.size w w'))
        case atStart => exact ⟨(y196), (y199), (([] : List Int)), (([] : List Int)), (0), (by first | rfl | (simp; done) | (simp [*]; done)), H', ⟨Nat.le_refl _⟩, ⟨by (with_reducible repeat (first | apply Kd.R_alloc | apply Kd.R_drewN | apply Kd.R_drew)); exact HO198.out⟩, ⟨by (with_reducible repeat (first | apply Kd.R_alloc | apply Kd.R_drewN | apply Kd.R_drew)); exact HO201.out⟩, ⟨by first | exact Kd.R_nil _ _ _ _ _ | exact Kd.N_nil _ _ _ _ _ | exact Kd.V_nil _ _ _ _ _ | exact Kd.Q_nil _ _ _ _ _ | exact Kd.S_nil _ _ _ _ _⟩, ⟨by first | exact Kd.R_nil _ _ _ _ _ | exact Kd.N_nil _ _ _ _ _ | exact Kd.V_nil _ _ _ _ _ | exact Kd.Q_nil _ _ _ _ _ | exact Kd.S_nil _ _ _ _ _⟩, ⟨by (with_reducible repeat (first | refine blk_drewN ?_ _ | refine blk_drew ?_ | refine blk_alloc ?_ _)); exact BK191.out⟩, ⟨by repeat (first | (with_reducible first | exact HB.out | apply below_alloc | apply pw_below_drewN | apply below_drew1 | refine below_set ?_ GE191.out) | exact HB.out)⟩⟩
        case round =>
         clear H'
         try clear c1
         try clear c2
         try clear c2b0
         try clear c2b1
         try clear c2b2
         try clear p2
         try clear c4
         try clear c5
         try clear c6
         try clear c7
         try clear c7b0
         try clear c7b1
         try clear c11
         try clear c12
         try clear c12b0
         try clear c12b1
         try clear c13
         try clear c13b0
         try clear c13b1
         try clear c14
         try clear c14b0
         try clear c14b1
         try clear c15
         try clear hcz4_0
         try clear hcz4_1
         try clear hcz9_0
         try clear hcz9_1
         try clear hfz4_0
         try clear hfz4_1
         try clear hfz9_0
         try clear hfz9_1
         obtain ⟨x9_1, x10_1, x11_1, x12_1, x13_1, rfl, HA, HK1, HO_9, HO_10, HO_11, HO_12, BK191, HB⟩ := hrel
         cases gk with
         | zero => exact absurd HA.out (by simp [drawlotref14_Build.l0])
         | succ k1 =>
          have H := HA.out
          clear HA
          simp only [drawlotref14_Build.l0] at H
          by_cases c20 : x13_1 < (l0.length : Int)
          ·rw [if_pos c20] at H
           have c20b0 : decide (x13_1 < (l0.length : Int)) = true := decide_eq_true c20
           clear c20
           by_cases c21 : 0 ≤ x13_1
           ·rw [if_pos c21] at H
            have c21b0 : decide (0 ≤ x13_1) = true := decide_eq_true c21
            clear c21
            by_cases c22 : x13_1 < (x9_1.length : Int)
            ·rw [if_pos c22] at H
             have c22b0 : decide (x13_1 < (x9_1.length : Int)) = true := decide_eq_true c22
             clear c22
             obtain ⟨y203, hy203⟩ : ∃ y_ : List Int, y_ = (x9_1.set (x13_1 : Int).toNat (IntKind.u64.wrap ((IntKind.u64.wrap ((l0.length : Int))) * (rd l0 x13_1)))) := ⟨_, rfl⟩
             replace H : (if x13_1 < (x10_1.length : Int) then ((some (x10_1.set (x13_1 : Int).toNat (⟨t192, x13_1⟩ : S62) : List (S62))).bind fun y204 => (if (rd y203 x13_1) < t192 then (if x11_1.length < 17592186044416 then (drawlotref14_Build.l0 k1 l0 t192 (IntKind.u64.wrap ((l0.length : Int))) y203 y204 (x11_1 ++ [x13_1]) x12_1 (wrap64 (x13_1 + 1))) else (none)) else (if x12_1.length < 17592186044416 then (drawlotref14_Build.l0 k1 l0 t192 (IntKind.u64.wrap ((l0.length : Int))) y203 y204 x11_1 (x12_1 ++ [x13_1]) (wrap64 (x13_1 + 1))) else (none)))) else (none)) = some (r1, r2, r3) := by first | (rw [hy203]; with_reducible exact H) | (have H2_ := (Option.bind_some _ _).symm.trans H; rw [hy203]; with_reducible exact H2_) | (have H2_ := (Option.bind_some _ _).symm.trans H; with_reducible exact H2_) | with_reducible exact H | (rw [hy203]; exact H) | exact H
             have Ny203 := Aside0.mk hy203
             clear hy203
             by_cases c24 : x13_1 < (x10_1.length : Int)
             ·rw [if_pos c24] at H
              have c24b0 : decide (x13_1 < (x10_1.length : Int)) = true := decide_eq_true c24
              clear c24
              obtain ⟨y204, hy204⟩ : ∃ y_ : List (S62), y_ = (x10_1.set (x13_1 : Int).toNat (⟨t192, x13_1⟩ : S62)) := ⟨_, rfl⟩
              replace H : (if (rd y203 x13_1) < t192 then (if x11_1.length < 17592186044416 then (drawlotref14_Build.l0 k1 l0 t192 (IntKind.u64.wrap ((l0.length : Int))) y203 y204 (x11_1 ++ [x13_1]) x12_1 (wrap64 (x13_1 + 1))) else (none)) else (if x12_1.length < 17592186044416 then (drawlotref14_Build.l0 k1 l0 t192 (IntKind.u64.wrap ((l0.length : Int))) y203 y204 x11_1 (x12_1 ++ [x13_1]) (wrap64 (x13_1 + 1))) else (none))) = some (r1, r2, r3) := by first | (rw [hy204]; with_reducible exact H) | (have H2_ := (Option.bind_some _ _).symm.trans H; rw [hy204]; with_reducible exact H2_) | (have H2_ := (Option.bind_some _ _).symm.trans H; with_reducible exact H2_) | with_reducible exact H | (rw [hy204]; exact H) | exact H
              have Ny204 := Aside0.mk hy204
              clear hy204
              by_cases c26 : (rd y203 x13_1) < t192
              ·rw [if_pos c26] at H
               have c26b0 : decide ((rd y203 x13_1) < t192) = true := decide_eq_true c26
               clear c26
               by_cases c27 : x11_1.length < 17592186044416
               ·rw [if_pos c27] at H
                have LMc27 := Aside0.mk c27
                clear c27
                obtain ⟨y206, hy206⟩ : ∃ y_ : List Int, y_ = (x11_1 ++ [x13_1]) := ⟨_, rfl⟩
                replace H : (drawlotref14_Build.l0 k1 l0 t192 (IntKind.u64.wrap ((l0.length : Int))) y203 y204 y206 x12_1 (wrap64 (x13_1 + 1))) = some (r1, r2, r3) := by first | (rw [hy206]; with_reducible exact H) | (have H2_ := (Option.bind_some _ _).symm.trans H; rw [hy206]; with_reducible exact H2_) | (have H2_ := (Option.bind_some _ _).symm.trans H; with_reducible exact H2_) | with_reducible exact H | (rw [hy206]; exact H) | exact H
                have Ny206 := Aside0.mk hy206
                clear hy206
                have H' := Aside0.mk H
                clear H
                have p202 : 0 ≤ (x13_1 : Int) := of_decide_eq_true (by first | (with_reducible assumption) | assumption)
                have q202 : x13_1 < (l0.length : Int) := of_decide_eq_true (by first | (with_reducible assumption) | assumption)
                obtain ⟨ad202, e202, hx202_0⟩ := Kd.at_int HR0.out x13_1 p202 q202
                cases e202
                replace hx202_0 := (HB.out.cell (World.block_lt_of_cell? w _ hx202_0)).trans hx202_0
                replace p202 := eq_true p202
                replace q202 := eq_true q202
                have p23 : 0 ≤ (x13_1 : Int) := of_decide_eq_true (by first | (with_reducible assumption) | assumption)
                have q23 : (x13_1 : Int) < ((x9_1.length : Int) : Int) := of_decide_eq_true (by first | (with_reducible assumption) | assumption)
                obtain ⟨go23, co23, eo23, gb23, gl23, cl23, HG23⟩ := Kd.R_form HO_9.out (by omega)
                (first | cases eo23 | (injection eo23 with ea_ en_ ec_; (first | subst ea_ | (injection ea_ with ea_; subst ea_)); subst ec_; clear en_))
                have GB23 := Aside0.mk gb23
                have GG23 := Aside0.mk HG23
                clear gb23 gl23 HG23
                obtain ⟨hx23_0, hf23_0⟩ := Kd.R_celln 0 HO_9.out (x13_1 : Int) p23 q23
                replace p23 := eq_true p23
                replace q23 := eq_true q23
                have HP28 := Kd.R_putg HO_9.out (x13_1 : Int) (IntKind.u64.wrap ((IntKind.u64.wrap ((l0.length : Int))) * (rd l0 x13_1)))
                go_wp2_with (first | ((with_reducible refine gate_store (t := 24) (p := 63) rfl ?_); refine store_event (t := 24) (p := 63) (v := ?vo_w29) (w1 := (wr.setCell ⟨go23, (x13_1 : Int).toNat, none⟩ (.int .u64 (IntKind.u64.wrap ((IntKind.u64.wrap ((l0.length : Int))) * (rd l0 x13_1)))))) ?hg ?ho ?hn ?hr ?_; (case ho => rfl); (case hg => rfl); (case hn => rfl); (case hr => first | (go_simp; done) | (go_simp; rfl)); intro w29 hw; have hg : wr.grownBy w29 (some go23) := (by rw [hw]; exact HP28.2); have hp_ : Kd.R (Kd.int .u64) 24 w29 w.heap.size (fun _ => True) (.slice (some ⟨go23, 0, none⟩) x9_1.length co23) y203 := (by rw [hw, Ny203.out]; exact HP28.1); clear HP28; have n0_ := Aside0.mk (hp_); have n1_ := Aside0.mk (Kd.R_over' (v := (.slice (some ⟨go23, 0, none⟩) x9_1.length co23)) (by (with_reducible repeat (first | apply Kd.R_alloc | apply Kd.R_drewN | apply Kd.R_drew)); exact HO_10.out) (Kd.R_typed HO_9.out) (by decide) hg); have n2_ := Aside0.mk (Kd.R_over' (v := (.slice (some ⟨go23, 0, none⟩) x9_1.length co23)) (by (with_reducible repeat (first | apply Kd.R_alloc | apply Kd.R_drewN | apply Kd.R_drew)); exact HO_11.out) (Kd.R_typed HO_9.out) (by decide) hg); have n3_ := Aside0.mk (Kd.R_over' (v := (.slice (some ⟨go23, 0, none⟩) x9_1.length co23)) (by (with_reducible repeat (first | apply Kd.R_alloc | apply Kd.R_drewN | apply Kd.R_drew)); exact HO_12.out) (Kd.R_typed HO_9.out) (by decide) hg); have n4_ := Aside0.mk (blk_grown (g := gb191) (o := .cells #[.int .u64 0, .slice none 0 0] 27 (0, 0)) (by (with_reducible repeat (first | refine blk_drewN ?_ _ | refine blk_drew ?_ | refine blk_alloc ?_ _)); exact BK191.out) hg (Kd.R_ne HO_9.out BK191.out (by decide))); have n5_ := Aside0.mk ((by rw [hw]; exact below_set (HB.out) GB23.out : Below w.heap.size w w29)); clear HO_9; clear HO_10; clear HO_11; clear HO_12; clear BK191; clear HB; have HO_9 := n0_; have HO_10 := n1_; have HO_11 := n2_; have HO_12 := n3_; have BK191 := n4_; have HB := n5_; clear n0_ n1_ n2_ n3_ n4_ n5_; clear hg hw hp_; have p25 : 0 ≤ (x13_1 : Int) := of_decide_eq_true (by first | (with_reducible assumption) | assumption); have q25 : (x13_1 : Int) < ((x10_1.length : Int) : Int) := of_decide_eq_true (by first | (with_reducible assumption) | assumption); obtain ⟨go25, co25, eo25, gb25, gl25, cl25, HG25⟩ := Kd.R_form HO_10.out (by omega); (first | cases eo25 | (injection eo25 with ea_ en_ ec_; (first | subst ea_ | (injection ea_ with ea_; subst ea_)); subst ec_; clear en_)); have GB25 := Aside0.mk gb25; have GG25 := Aside0.mk HG25; clear gb25 gl25 HG25; obtain ⟨ce25, hcl25, hM25, hcc25, hfr25⟩ := Kd.R_elem HO_10.out z62 (x13_1 : Int) p25 q25; obtain rfl := k62_openM hM25; have hx25_0 : w29.cell? ⟨go25, (x13_1 : Int).toNat * 2, none⟩ = some (.int .u64 ((rd_T62 x10_1 x13_1).f0)) := hcc25 0 _ rfl; have hx25_1 : w29.cell? ⟨go25, (x13_1 : Int).toNat * 2 + 1, none⟩ = some (.int .i64 ((rd_T62 x10_1 x13_1).f1)) := hcc25 1 _ rfl; have hf25_0 : w29.frozen? ⟨go25, (x13_1 : Int).toNat * 2, none⟩ = false := hfr25 0; have hf25_1 : w29.frozen? ⟨go25, (x13_1 : Int).toNat * 2 + 1, none⟩ = false := hfr25 1; clear hcl25 hcc25 hfr25 hM25; replace p25 := eq_true p25; replace q25 := eq_true q25; have HX30 := Aside0.mk (show Kd.R k62 62 w29 w.heap.size (fun _ => True) (.slice (some ⟨go25, 0, none⟩) x10_1.length co25) x10_1 from (by (with_reducible repeat (first | apply Kd.R_alloc | apply Kd.R_drewN | apply Kd.R_drew)); exact HO_10.out)); obtain ⟨ce30, hcl30, hM30, hcc30, hfr30⟩ := Kd.R_elem HX30.out z62 (x13_1 : Int) (of_decide_eq_true (by first | (with_reducible assumption) | assumption)) (by have h_ : (x13_1 : Int) < ((x10_1.length : Int) : Int) := of_decide_eq_true (by first | (with_reducible assumption) | assumption); first | exact h_ | (have e_ := (Kd.R_reads' HO_10.out).1; omega) | simpa using h_); obtain rfl := k62_openM hM30; have HP30 := Kd.R_seg HX30.out (x13_1 : Int) (of_decide_eq_true (by first | (with_reducible assumption) | assumption)) (by have h_ : (x13_1 : Int) < ((x10_1.length : Int) : Int) := of_decide_eq_true (by first | (with_reducible assumption) | assumption); first | exact h_ | (have e_ := (Kd.R_reads' HO_10.out).1; omega) | simpa using h_) (seg := [.int .u64 t192, .int .i64 x13_1]) (j := 0) hcl30 hcc30 (show 2 ≤ 2 from by decide) (x' := (⟨t192, x13_1⟩ : S62)) (k62_mkM _ _ _ (⟨t192, x13_1⟩ : S62) ) (fun _ hk => hk); have hx30_0 := hcc30 0 _ rfl; (try simp only [show (k62).sz = 2 from rfl, Nat.mul_one, Nat.add_zero] at hx30_0); have hf30_0 := hfr30 0; (try simp only [show (k62).sz = 2 from rfl, Nat.mul_one, Nat.add_zero] at hf30_0); have hx30_1 := hcc30 1 _ rfl; (try simp only [show (k62).sz = 2 from rfl, Nat.mul_one, Nat.add_zero] at hx30_1); have hf30_1 := hfr30 1; (try simp only [show (k62).sz = 2 from rfl, Nat.mul_one, Nat.add_zero] at hf30_1); clear hcl30 hcc30 hfr30 hM30) | ((with_reducible refine gate_store (t := 62) (p := 69) rfl ?_); refine store_event (t := 62) (p := 69) (v := ?vo_w31) (w1 := ((w29.setCell ⟨go25, (x13_1 : Int).toNat * 2, none⟩ (.int .u64 t192)).setCell ⟨go25, (x13_1 : Int).toNat * 2 + 1, none⟩ (.int .i64 x13_1))) ?hg ?ho ?hn ?hr ?_; (case ho => rfl); (case hg => rfl); (case hn => rfl); (case hr => first | (go_simp; done) | (go_simp; rfl)); intro w31 hw; have hg : w29.grownBy w31 (some go25) := (by rw [hw]; exact HP30.2); have hp_ : Kd.R k62 62 w31 w.heap.size (fun _ => True) (.slice (some ⟨go25, 0, none⟩) x10_1.length co25) y204 := (by rw [hw, Ny204.out]; exact HP30.1); clear HP30; have n0_ := Aside0.mk (Kd.R_over' (v := (.slice (some ⟨go25, 0, none⟩) x10_1.length co25)) (by (with_reducible repeat (first | apply Kd.R_alloc | apply Kd.R_drewN | apply Kd.R_drew)); exact HO_9.out) (Kd.R_typed HO_10.out) (by decide) hg); have n1_ := Aside0.mk (hp_); have n2_ := Aside0.mk (Kd.R_over' (v := (.slice (some ⟨go25, 0, none⟩) x10_1.length co25)) (by (with_reducible repeat (first | apply Kd.R_alloc | apply Kd.R_drewN | apply Kd.R_drew)); exact HO_11.out) (Kd.R_typed HO_10.out) (by decide) hg); have n3_ := Aside0.mk (Kd.R_over' (v := (.slice (some ⟨go25, 0, none⟩) x10_1.length co25)) (by (with_reducible repeat (first | apply Kd.R_alloc | apply Kd.R_drewN | apply Kd.R_drew)); exact HO_12.out) (Kd.R_typed HO_10.out) (by decide) hg); have n4_ := Aside0.mk (blk_grown (g := gb191) (o := .cells #[.int .u64 0, .slice none 0 0] 27 (0, 0)) (by (with_reducible repeat (first | refine blk_drewN ?_ _ | refine blk_drew ?_ | refine blk_alloc ?_ _)); exact BK191.out) hg (Kd.R_ne HO_10.out BK191.out (by decide))); have n5_ := Aside0.mk ((by rw [hw]; exact below_set (below_set (HB.out) GB25.out) GB25.out : Below w.heap.size w w31)); clear HO_9; clear HO_10; clear HO_11; clear HO_12; clear BK191; clear HB; have HO_9 := n0_; have HO_10 := n1_; have HO_11 := n2_; have HO_12 := n3_; have BK191 := n4_; have HB := n5_; clear n0_ n1_ n2_ n3_ n4_ n5_; clear hg hw hp_; have p205 : 0 ≤ (x13_1 : Int) := of_decide_eq_true (by first | (with_reducible assumption) | assumption); have q205 : x13_1 < (y203.length : Int) := (by have h_ : (x13_1 : Int) < ((x9_1.length : Int) : Int) := of_decide_eq_true (by first | (with_reducible assumption) | assumption); first | (have e_ := (Kd.R_reads' HO_9.out).1; omega) | simpa only [Ny203.out, List.length_set] using h_); have ql205 : ((x13_1 : Int) < ((x9_1.length : Int) : Int)) = True := eq_true (of_decide_eq_true (by first | (with_reducible assumption) | assumption)); obtain ⟨ad205, e205, hx205_0⟩ := Kd.at_int (Kd.R_reads' HO_9.out).2.2 x13_1 p205 q205; obtain rfl : (⟨go23, 0, none⟩ : Addr) = ad205 := (by injection e205); (first | simp only [add_plain] at hx205_0 | simp only [add_at] at hx205_0 | simp only [Addr.add, Nat.zero_add] at hx205_0 | skip); replace p205 := eq_true p205; replace q205 := eq_true q205) | ((with_reducible refine gate_builtin (b := .append) (xs := #[.tmp 76, .tmp 78]) rfl ?_); (try (refine gate_guard (by rfl) ?_; dsimp only)); at_builtin; refine Kd.R_append (Kd.int .i64) (w0 := w) w.heap.size rfl (.tmp 76) (.tmp 78) 65 3 (.int .i64 0) 8 rfl Try.underlying65 info3 rfl (by decide) (by omega) u11 x11_1 x13_1 [.int .i64 x13_1] (fun k_ => some k_ ≠ (u12 : Value).ownBlock) (fun _ => False) rfl rfl ?aP (fun _ hk => hk.elim) ?aF ?aO ?aB ?aS ?aL ?_; (case aP => exact rfl); (case aB => exact (by repeat (first | (with_reducible first | exact HB.out | apply below_alloc | apply pw_below_drewN | apply below_drew1 | refine below_set ?_ GE191.out) | exact HB.out))); (case aF => exact (fun k_ hk => Kd.fresh' (Kd.R_lt (by (with_reducible repeat (first | apply Kd.R_alloc | apply Kd.R_drewN | apply Kd.R_drew)); exact HO_12.out)) k_ hk)); (case aO => exact (by (with_reducible repeat (first | apply Kd.R_alloc | apply Kd.R_drewN | apply Kd.R_drew)); exact HO_11.out)); (case aS => exact (below_size (by repeat (first | (with_reducible first | exact HB.out | apply below_alloc | apply pw_below_drewN | apply below_drew1 | refine below_set ?_ GE191.out) | exact HB.out)))); (case aL => have := LMc27.out; omega); intro v207 w32 ho hb hg hat; rw [← Ny206.out] at ho; have n0_ := Aside0.mk (Kd.R_over' (by (with_reducible repeat (first | apply Kd.R_alloc | apply Kd.R_drewN | apply Kd.R_drew)); exact HO_9.out) (Kd.R_typed (by (with_reducible repeat (first | apply Kd.R_alloc | apply Kd.R_drewN | apply Kd.R_drew)); exact HO_11.out)) (by decide) hg); have n1_ := Aside0.mk (Kd.R_over' (by (with_reducible repeat (first | apply Kd.R_alloc | apply Kd.R_drewN | apply Kd.R_drew)); exact HO_10.out) (Kd.R_typed (by (with_reducible repeat (first | apply Kd.R_alloc | apply Kd.R_drewN | apply Kd.R_drew)); exact HO_11.out)) (by decide) hg); have n2_ := Aside0.mk (Kd.R_after (ok := (fun _ => True)) (by (with_reducible repeat (first | apply Kd.R_alloc | apply Kd.R_drewN | apply Kd.R_drew)); exact Kd.R_mono HO_12.out (fun _ hk => ⟨trivial, hk⟩)) hg hat); have n3_ := Aside0.mk (blk_grown (g := gb191) (o := .cells #[.int .u64 0, .slice none 0 0] 27 (0, 0)) (by (with_reducible repeat (first | refine blk_drewN ?_ _ | refine blk_drew ?_ | refine blk_alloc ?_ _)); exact BK191.out) hg (Kd.R_ne HO_11.out BK191.out (by decide))); have n4_ := Aside0.mk (hb); have n5_ := Aside0.mk (ho); clear HO_9; clear HO_10; clear HO_12; clear BK191; clear HB; clear HO_11; have HO_9 := n0_; have HO_10 := n1_; have HO_12 := n2_; have BK191 := n3_; have HB := n4_; have HO208 := n5_; clear n0_ n1_ n2_ n3_ n4_ n5_; clear ho hb hg hat))
                go_roundg k1
                case measure => have := HK1.out; omega
                case rel => exact ⟨(y203), (y204), (y206), (x12_1), (wrap64 (x13_1 + 1)), (by first | rfl | (simp; done) | (simp [*]; done)), H', ⟨by have := HK1.out; omega⟩, ⟨by (with_reducible repeat (first | apply Kd.R_alloc | apply Kd.R_drewN | apply Kd.R_drew)); exact HO_9.out⟩, ⟨by (with_reducible repeat (first | apply Kd.R_alloc | apply Kd.R_drewN | apply Kd.R_drew)); exact HO_10.out⟩, ⟨by (with_reducible repeat (first | apply Kd.R_alloc | apply Kd.R_drewN | apply Kd.R_drew)); exact HO208.out⟩, ⟨by (with_reducible repeat (first | apply Kd.R_alloc | apply Kd.R_drewN | apply Kd.R_drew)); exact Kd.R_mono HO_12.out (fun _ hk => hk.2)⟩, ⟨by (with_reducible repeat (first | refine blk_drewN ?_ _ | refine blk_drew ?_ | refine blk_alloc ?_ _)); exact BK191.out⟩, ⟨by repeat (first | (with_reducible first | exact HB.out | apply below_alloc | apply pw_below_drewN | apply below_drew1 | refine below_set ?_ GE191.out) | exact HB.out)⟩⟩
               ·rw [if_neg c27] at H
                exact absurd H (by simp)
              ·rw [if_neg c26] at H
               have c26b0 : decide ((rd y203 x13_1) < t192) = false := decide_eq_false c26
               clear c26
               by_cases c33 : x12_1.length < 17592186044416
               ·rw [if_pos c33] at H
                have LMc33 := Aside0.mk c33
                clear c33
                obtain ⟨y209, hy209⟩ : ∃ y_ : List Int, y_ = (x12_1 ++ [x13_1]) := ⟨_, rfl⟩
                replace H : (drawlotref14_Build.l0 k1 l0 t192 (IntKind.u64.wrap ((l0.length : Int))) y203 y204 x11_1 y209 (wrap64 (x13_1 + 1))) = some (r1, r2, r3) := by first | (rw [hy209]; with_reducible exact H) | (have H2_ := (Option.bind_some _ _).symm.trans H; rw [hy209]; with_reducible exact H2_) | (have H2_ := (Option.bind_some _ _).symm.trans H; with_reducible exact H2_) | with_reducible exact H | (rw [hy209]; exact H) | exact H
                have Ny209 := Aside0.mk hy209
                clear hy209
                have H' := Aside0.mk H
                clear H
                have p202 : 0 ≤ (x13_1 : Int) := of_decide_eq_true (by first | (with_reducible assumption) | assumption)
                have q202 : x13_1 < (l0.length : Int) := of_decide_eq_true (by first | (with_reducible assumption) | assumption)
                obtain ⟨ad202, e202, hx202_0⟩ := Kd.at_int HR0.out x13_1 p202 q202
                cases e202
                replace hx202_0 := (HB.out.cell (World.block_lt_of_cell? w _ hx202_0)).trans hx202_0
                replace p202 := eq_true p202
                replace q202 := eq_true q202
                have p23 : 0 ≤ (x13_1 : Int) := of_decide_eq_true (by first | (with_reducible assumption) | assumption)
                have q23 : (x13_1 : Int) < ((x9_1.length : Int) : Int) := of_decide_eq_true (by first | (with_reducible assumption) | assumption)
                obtain ⟨go23, co23, eo23, gb23, gl23, cl23, HG23⟩ := Kd.R_form HO_9.out (by omega)
                (first | cases eo23 | (injection eo23 with ea_ en_ ec_; (first | subst ea_ | (injection ea_ with ea_; subst ea_)); subst ec_; clear en_))
                have GB23 := Aside0.mk gb23
                have GG23 := Aside0.mk HG23
                clear gb23 gl23 HG23
                obtain ⟨hx23_0, hf23_0⟩ := Kd.R_celln 0 HO_9.out (x13_1 : Int) p23 q23
                replace p23 := eq_true p23
                replace q23 := eq_true q23
                have HP34 := Kd.R_putg HO_9.out (x13_1 : Int) (IntKind.u64.wrap ((IntKind.u64.wrap ((l0.length : Int))) * (rd l0 x13_1)))
                go_wp2_with (first | ((with_reducible refine gate_store (t := 24) (p := 63) rfl ?_); refine store_event (t := 24) (p := 63) (v := ?vo_w35) (w1 := (wr.setCell ⟨go23, (x13_1 : Int).toNat, none⟩ (.int .u64 (IntKind.u64.wrap ((IntKind.u64.wrap ((l0.length : Int))) * (rd l0 x13_1)))))) ?hg ?ho ?hn ?hr ?_; (case ho => rfl); (case hg => rfl); (case hn => rfl); (case hr => first | (go_simp; done) | (go_simp; rfl)); intro w35 hw; have hg : wr.grownBy w35 (some go23) := (by rw [hw]; exact HP34.2); have hp_ : Kd.R (Kd.int .u64) 24 w35 w.heap.size (fun _ => True) (.slice (some ⟨go23, 0, none⟩) x9_1.length co23) y203 := (by rw [hw, Ny203.out]; exact HP34.1); clear HP34; have n0_ := Aside0.mk (hp_); have n1_ := Aside0.mk (Kd.R_over' (v := (.slice (some ⟨go23, 0, none⟩) x9_1.length co23)) (by (with_reducible repeat (first | apply Kd.R_alloc | apply Kd.R_drewN | apply Kd.R_drew)); exact HO_10.out) (Kd.R_typed HO_9.out) (by decide) hg); have n2_ := Aside0.mk (Kd.R_over' (v := (.slice (some ⟨go23, 0, none⟩) x9_1.length co23)) (by (with_reducible repeat (first | apply Kd.R_alloc | apply Kd.R_drewN | apply Kd.R_drew)); exact HO_11.out) (Kd.R_typed HO_9.out) (by decide) hg); have n3_ := Aside0.mk (Kd.R_over' (v := (.slice (some ⟨go23, 0, none⟩) x9_1.length co23)) (by (with_reducible repeat (first | apply Kd.R_alloc | apply Kd.R_drewN | apply Kd.R_drew)); exact HO_12.out) (Kd.R_typed HO_9.out) (by decide) hg); have n4_ := Aside0.mk (blk_grown (g := gb191) (o := .cells #[.int .u64 0, .slice none 0 0] 27 (0, 0)) (by (with_reducible repeat (first | refine blk_drewN ?_ _ | refine blk_drew ?_ | refine blk_alloc ?_ _)); exact BK191.out) hg (Kd.R_ne HO_9.out BK191.out (by decide))); have n5_ := Aside0.mk ((by rw [hw]; exact below_set (HB.out) GB23.out : Below w.heap.size w w35)); clear HO_9; clear HO_10; clear HO_11; clear HO_12; clear BK191; clear HB; have HO_9 := n0_; have HO_10 := n1_; have HO_11 := n2_; have HO_12 := n3_; have BK191 := n4_; have HB := n5_; clear n0_ n1_ n2_ n3_ n4_ n5_; clear hg hw hp_; have p25 : 0 ≤ (x13_1 : Int) := of_decide_eq_true (by first | (with_reducible assumption) | assumption); have q25 : (x13_1 : Int) < ((x10_1.length : Int) : Int) := of_decide_eq_true (by first | (with_reducible assumption) | assumption); obtain ⟨go25, co25, eo25, gb25, gl25, cl25, HG25⟩ := Kd.R_form HO_10.out (by omega); (first | cases eo25 | (injection eo25 with ea_ en_ ec_; (first | subst ea_ | (injection ea_ with ea_; subst ea_)); subst ec_; clear en_)); have GB25 := Aside0.mk gb25; have GG25 := Aside0.mk HG25; clear gb25 gl25 HG25; obtain ⟨ce25, hcl25, hM25, hcc25, hfr25⟩ := Kd.R_elem HO_10.out z62 (x13_1 : Int) p25 q25; obtain rfl := k62_openM hM25; have hx25_0 : w35.cell? ⟨go25, (x13_1 : Int).toNat * 2, none⟩ = some (.int .u64 ((rd_T62 x10_1 x13_1).f0)) := hcc25 0 _ rfl; have hx25_1 : w35.cell? ⟨go25, (x13_1 : Int).toNat * 2 + 1, none⟩ = some (.int .i64 ((rd_T62 x10_1 x13_1).f1)) := hcc25 1 _ rfl; have hf25_0 : w35.frozen? ⟨go25, (x13_1 : Int).toNat * 2, none⟩ = false := hfr25 0; have hf25_1 : w35.frozen? ⟨go25, (x13_1 : Int).toNat * 2 + 1, none⟩ = false := hfr25 1; clear hcl25 hcc25 hfr25 hM25; replace p25 := eq_true p25; replace q25 := eq_true q25; have HX36 := Aside0.mk (show Kd.R k62 62 w35 w.heap.size (fun _ => True) (.slice (some ⟨go25, 0, none⟩) x10_1.length co25) x10_1 from (by (with_reducible repeat (first | apply Kd.R_alloc | apply Kd.R_drewN | apply Kd.R_drew)); exact HO_10.out)); obtain ⟨ce36, hcl36, hM36, hcc36, hfr36⟩ := Kd.R_elem HX36.out z62 (x13_1 : Int) (of_decide_eq_true (by first | (with_reducible assumption) | assumption)) (by have h_ : (x13_1 : Int) < ((x10_1.length : Int) : Int) := of_decide_eq_true (by first | (with_reducible assumption) | assumption); first | exact h_ | (have e_ := (Kd.R_reads' HO_10.out).1; omega) | simpa using h_); obtain rfl := k62_openM hM36; have HP36 := Kd.R_seg HX36.out (x13_1 : Int) (of_decide_eq_true (by first | (with_reducible assumption) | assumption)) (by have h_ : (x13_1 : Int) < ((x10_1.length : Int) : Int) := of_decide_eq_true (by first | (with_reducible assumption) | assumption); first | exact h_ | (have e_ := (Kd.R_reads' HO_10.out).1; omega) | simpa using h_) (seg := [.int .u64 t192, .int .i64 x13_1]) (j := 0) hcl36 hcc36 (show 2 ≤ 2 from by decide) (x' := (⟨t192, x13_1⟩ : S62)) (k62_mkM _ _ _ (⟨t192, x13_1⟩ : S62) ) (fun _ hk => hk); have hx36_0 := hcc36 0 _ rfl; (try simp only [show (k62).sz = 2 from rfl, Nat.mul_one, Nat.add_zero] at hx36_0); have hf36_0 := hfr36 0; (try simp only [show (k62).sz = 2 from rfl, Nat.mul_one, Nat.add_zero] at hf36_0); have hx36_1 := hcc36 1 _ rfl; (try simp only [show (k62).sz = 2 from rfl, Nat.mul_one, Nat.add_zero] at hx36_1); have hf36_1 := hfr36 1; (try simp only [show (k62).sz = 2 from rfl, Nat.mul_one, Nat.add_zero] at hf36_1); clear hcl36 hcc36 hfr36 hM36) | ((with_reducible refine gate_store (t := 62) (p := 69) rfl ?_); refine store_event (t := 62) (p := 69) (v := ?vo_w37) (w1 := ((w35.setCell ⟨go25, (x13_1 : Int).toNat * 2, none⟩ (.int .u64 t192)).setCell ⟨go25, (x13_1 : Int).toNat * 2 + 1, none⟩ (.int .i64 x13_1))) ?hg ?ho ?hn ?hr ?_; (case ho => rfl); (case hg => rfl); (case hn => rfl); (case hr => first | (go_simp; done) | (go_simp; rfl)); intro w37 hw; have hg : w35.grownBy w37 (some go25) := (by rw [hw]; exact HP36.2); have hp_ : Kd.R k62 62 w37 w.heap.size (fun _ => True) (.slice (some ⟨go25, 0, none⟩) x10_1.length co25) y204 := (by rw [hw, Ny204.out]; exact HP36.1); clear HP36; have n0_ := Aside0.mk (Kd.R_over' (v := (.slice (some ⟨go25, 0, none⟩) x10_1.length co25)) (by (with_reducible repeat (first | apply Kd.R_alloc | apply Kd.R_drewN | apply Kd.R_drew)); exact HO_9.out) (Kd.R_typed HO_10.out) (by decide) hg); have n1_ := Aside0.mk (hp_); have n2_ := Aside0.mk (Kd.R_over' (v := (.slice (some ⟨go25, 0, none⟩) x10_1.length co25)) (by (with_reducible repeat (first | apply Kd.R_alloc | apply Kd.R_drewN | apply Kd.R_drew)); exact HO_11.out) (Kd.R_typed HO_10.out) (by decide) hg); have n3_ := Aside0.mk (Kd.R_over' (v := (.slice (some ⟨go25, 0, none⟩) x10_1.length co25)) (by (with_reducible repeat (first | apply Kd.R_alloc | apply Kd.R_drewN | apply Kd.R_drew)); exact HO_12.out) (Kd.R_typed HO_10.out) (by decide) hg); have n4_ := Aside0.mk (blk_grown (g := gb191) (o := .cells #[.int .u64 0, .slice none 0 0] 27 (0, 0)) (by (with_reducible repeat (first | refine blk_drewN ?_ _ | refine blk_drew ?_ | refine blk_alloc ?_ _)); exact BK191.out) hg (Kd.R_ne HO_10.out BK191.out (by decide))); have n5_ := Aside0.mk ((by rw [hw]; exact below_set (below_set (HB.out) GB25.out) GB25.out : Below w.heap.size w w37)); clear HO_9; clear HO_10; clear HO_11; clear HO_12; clear BK191; clear HB; have HO_9 := n0_; have HO_10 := n1_; have HO_11 := n2_; have HO_12 := n3_; have BK191 := n4_; have HB := n5_; clear n0_ n1_ n2_ n3_ n4_ n5_; clear hg hw hp_; have p205 : 0 ≤ (x13_1 : Int) := of_decide_eq_true (by first | (with_reducible assumption) | assumption); have q205 : x13_1 < (y203.length : Int) := (by have h_ : (x13_1 : Int) < ((x9_1.length : Int) : Int) := of_decide_eq_true (by first | (with_reducible assumption) | assumption); first | (have e_ := (Kd.R_reads' HO_9.out).1; omega) | simpa only [Ny203.out, List.length_set] using h_); have ql205 : ((x13_1 : Int) < ((x9_1.length : Int) : Int)) = True := eq_true (of_decide_eq_true (by first | (with_reducible assumption) | assumption)); obtain ⟨ad205, e205, hx205_0⟩ := Kd.at_int (Kd.R_reads' HO_9.out).2.2 x13_1 p205 q205; obtain rfl : (⟨go23, 0, none⟩ : Addr) = ad205 := (by injection e205); (first | simp only [add_plain] at hx205_0 | simp only [add_at] at hx205_0 | simp only [Addr.add, Nat.zero_add] at hx205_0 | skip); replace p205 := eq_true p205; replace q205 := eq_true q205) | ((with_reducible refine gate_builtin (b := .append) (xs := #[.tmp 80, .tmp 82]) rfl ?_); (try (refine gate_guard (by rfl) ?_; dsimp only)); at_builtin; refine Kd.R_append (Kd.int .i64) (w0 := w) w.heap.size rfl (.tmp 80) (.tmp 82) 65 3 (.int .i64 0) 8 rfl Try.underlying65 info3 rfl (by decide) (by omega) u12 x12_1 x13_1 [.int .i64 x13_1] (fun k_ => some k_ ≠ (u11 : Value).ownBlock) (fun _ => False) rfl rfl ?aP (fun _ hk => hk.elim) ?aF ?aO ?aB ?aS ?aL ?_; (case aP => exact rfl); (case aB => exact (by repeat (first | (with_reducible first | exact HB.out | apply below_alloc | apply pw_below_drewN | apply below_drew1 | refine below_set ?_ GE191.out) | exact HB.out))); (case aF => exact (fun k_ hk => Kd.fresh' (Kd.R_lt (by (with_reducible repeat (first | apply Kd.R_alloc | apply Kd.R_drewN | apply Kd.R_drew)); exact HO_11.out)) k_ hk)); (case aO => exact (by (with_reducible repeat (first | apply Kd.R_alloc | apply Kd.R_drewN | apply Kd.R_drew)); exact HO_12.out)); (case aS => exact (below_size (by repeat (first | (with_reducible first | exact HB.out | apply below_alloc | apply pw_below_drewN | apply below_drew1 | refine below_set ?_ GE191.out) | exact HB.out)))); (case aL => have := LMc33.out; omega); intro v210 w38 ho hb hg hat; rw [← Ny209.out] at ho; have n0_ := Aside0.mk (Kd.R_over' (by (with_reducible repeat (first | apply Kd.R_alloc | apply Kd.R_drewN | apply Kd.R_drew)); exact HO_9.out) (Kd.R_typed (by (with_reducible repeat (first | apply Kd.R_alloc | apply Kd.R_drewN | apply Kd.R_drew)); exact HO_12.out)) (by decide) hg); have n1_ := Aside0.mk (Kd.R_over' (by (with_reducible repeat (first | apply Kd.R_alloc | apply Kd.R_drewN | apply Kd.R_drew)); exact HO_10.out) (Kd.R_typed (by (with_reducible repeat (first | apply Kd.R_alloc | apply Kd.R_drewN | apply Kd.R_drew)); exact HO_12.out)) (by decide) hg); have n2_ := Aside0.mk (Kd.R_after (ok := (fun _ => True)) (by (with_reducible repeat (first | apply Kd.R_alloc | apply Kd.R_drewN | apply Kd.R_drew)); exact Kd.R_mono HO_11.out (fun _ hk => ⟨trivial, hk⟩)) hg hat); have n3_ := Aside0.mk (blk_grown (g := gb191) (o := .cells #[.int .u64 0, .slice none 0 0] 27 (0, 0)) (by (with_reducible repeat (first | refine blk_drewN ?_ _ | refine blk_drew ?_ | refine blk_alloc ?_ _)); exact BK191.out) hg (Kd.R_ne HO_12.out BK191.out (by decide))); have n4_ := Aside0.mk (hb); have n5_ := Aside0.mk (ho); clear HO_9; clear HO_10; clear HO_11; clear BK191; clear HB; clear HO_12; have HO_9 := n0_; have HO_10 := n1_; have HO_11 := n2_; have BK191 := n3_; have HB := n4_; have HO211 := n5_; clear n0_ n1_ n2_ n3_ n4_ n5_; clear ho hb hg hat))
                go_roundg k1
                case measure => have := HK1.out; omega
                case rel => exact ⟨(y203), (y204), (x11_1), (y209), (wrap64 (x13_1 + 1)), (by first | rfl | (simp; done) | (simp [*]; done)), H', ⟨by have := HK1.out; omega⟩, ⟨by (with_reducible repeat (first | apply Kd.R_alloc | apply Kd.R_drewN | apply Kd.R_drew)); exact HO_9.out⟩, ⟨by (with_reducible repeat (first | apply Kd.R_alloc | apply Kd.R_drewN | apply Kd.R_drew)); exact HO_10.out⟩, ⟨by (with_reducible repeat (first | apply Kd.R_alloc | apply Kd.R_drewN | apply Kd.R_drew)); exact Kd.R_mono HO_11.out (fun _ hk => hk.2)⟩, ⟨by (with_reducible repeat (first | apply Kd.R_alloc | apply Kd.R_drewN | apply Kd.R_drew)); exact HO211.out⟩, ⟨by (with_reducible repeat (first | refine blk_drewN ?_ _ | refine blk_drew ?_ | refine blk_alloc ?_ _)); exact BK191.out⟩, ⟨by repeat (first | (with_reducible first | exact HB.out | apply below_alloc | apply pw_below_drewN | apply below_drew1 | refine below_set ?_ GE191.out) | exact HB.out)⟩⟩
               ·rw [if_neg c33] at H
                exact absurd H (by simp)
             ·rw [if_neg c24] at H
              exact absurd H (by simp)
            ·rw [if_neg c22] at H
             exact absurd H (by simp)
           ·rw [if_neg c21] at H
            exact absurd H (by simp)
          ·rw [if_neg c20] at H
           have c20b0 : decide (x13_1 < (l0.length : Int)) = false := decide_eq_false c20
           clear c20
           have H' := Aside0.mk H
           clear H
           go_wp2
           go_loopg [11, 12] k1 (fun kq v11 v12 w' => ∃ (x9_2 : List Int) (x10_2 : List (S62)) (x11_2 : List Int) (x12_2 : List Int), Aside0 (drawlotref14_Build.l1 kq t192 x9_2 x10_2 x11_2 x12_2 = some (r1, r2, r3)) ∧ Aside0 (kq ≤ k1) ∧ Aside0 (Kd.R (Kd.int .u64) 24 w' w.heap.size (fun _ => True) v197 x9_2) ∧ Aside0 (Kd.R k62 62 w' w.heap.size (fun _ => True) v200 x10_2) ∧ Aside0 (Kd.R (Kd.int .i64) 3 w' w.heap.size (fun k_ => some k_ ≠ (v12 : Value).ownBlock) v11 x11_2) ∧ Aside0 (Kd.R (Kd.int .i64) 3 w' w.heap.size (fun k_ => some k_ ≠ (v11 : Value).ownBlock) v12 x12_2) ∧ Aside0 (w'.heap[gb191]? = some (.cells #[.int .u64 0, (.slice none 0 0)] 27 (0, 0))) ∧ Aside0 (Below w.heap.size w w'))
           case atStart => exact ⟨(x9_1), (x10_1), (x11_1), (x12_1), H', ⟨Nat.le_refl _⟩, ⟨by (with_reducible repeat (first | apply Kd.R_alloc | apply Kd.R_drewN | apply Kd.R_drew)); exact HO_9.out⟩, ⟨by (with_reducible repeat (first | apply Kd.R_alloc | apply Kd.R_drewN | apply Kd.R_drew)); exact HO_10.out⟩, ⟨by (with_reducible repeat (first | apply Kd.R_alloc | apply Kd.R_drewN | apply Kd.R_drew)); exact HO_11.out⟩, ⟨by (with_reducible repeat (first | apply Kd.R_alloc | apply Kd.R_drewN | apply Kd.R_drew)); exact HO_12.out⟩, ⟨by (with_reducible repeat (first | refine blk_drewN ?_ _ | refine blk_drew ?_ | refine blk_alloc ?_ _)); exact BK191.out⟩, ⟨by repeat (first | (with_reducible first | exact HB.out | apply below_alloc | apply pw_below_drewN | apply below_drew1 | refine below_set ?_ GE191.out) | exact HB.out)⟩⟩
           case round =>
            clear H'
            try clear c1
            try clear c2
            try clear c2b0
            try clear c2b1
            try clear c2b2
            try clear p2
            try clear q2
            try clear hx2
            try clear hf2
            try clear c3
            try clear hx3
            try clear hf3
            try clear c4
            try clear c5
            try clear c6
            try clear p6
            try clear c7
            try clear c7b0
            try clear c7b1
            try clear c11
            try clear c12
            try clear c12b0
            try clear c12b1
            try clear c13
            try clear c13b0
            try clear c13b1
            try clear c14
            try clear c14b0
            try clear c14b1
            try clear c15
            try clear c20
            try clear c20b0
            try clear p20
            try clear q20
            try clear hx20
            try clear c21
            try clear c21b0
            try clear c22
            try clear c22b0
            try clear p23
            try clear q23
            try clear hx23
            try clear hf23
            try clear c24
            try clear c24b0
            try clear c25
            try clear p25
            try clear q25
            try clear hx25
            try clear hf25
            try clear c26
            try clear c26b0
            try clear c27
            try clear c30
            try clear hx30
            try clear hf30
            try clear c33
            try clear c36
            try clear hx36
            try clear hf36
            try clear hcz4_0
            try clear hcz4_1
            try clear hcz9_0
            try clear hcz9_1
            try clear hfz4_0
            try clear hfz4_1
            try clear hfz9_0
            try clear hfz9_1
            try clear hx202_0
            try clear hx205_0
            try clear hx23_0
            try clear hx25_0
            try clear hx25_1
            try clear hx30_0
            try clear hx30_1
            try clear hx36_0
            try clear hx36_1
            try clear p2
            try clear p202
            try clear p205
            try clear p23
            try clear p25
            try clear q202
            try clear q205
            try clear q23
            try clear q25
            obtain ⟨x9_2, x10_2, x11_2, x12_2, HA, HK2, HO_9, HO_10, HO_11, HO_12, BK191, HB⟩ := hrel
            cases gk with
            | zero => exact absurd HA.out (by simp [drawlotref14_Build.l1])
            | succ k2 =>
             have H := HA.out
             clear HA
             simp only [drawlotref14_Build.l1] at H
             have HC39 := Aside0.mk H
             clear H
             go_upto_region 23 with (fail)
             go_cut [91] (fun v91 wc => ∃ (kq : Nat) (x91_38 : Bool), v91 = .bool x91_38 ∧ Aside0 (drawlotref14_Build.j2 kq t192 x9_2 x10_2 x11_2 x12_2 x91_38 = some (r1, r2, r3)) ∧ Aside0 (kq ≤ k2) ∧ Aside0 (Kd.R (Kd.int .u64) 24 wc w.heap.size (fun _ => True) v197 x9_2) ∧ Aside0 (Kd.R k62 62 wc w.heap.size (fun _ => True) v200 x10_2) ∧ Aside0 (Kd.R (Kd.int .i64) 3 wc w.heap.size (fun k_ => some k_ ≠ (u12 : Value).ownBlock) u11 x11_2) ∧ Aside0 (Kd.R (Kd.int .i64) 3 wc w.heap.size (fun k_ => some k_ ≠ (u11 : Value).ownBlock) u12 x12_2) ∧ Aside0 (wc.heap[gb191]? = some (.cells #[.int .u64 0, (.slice none 0 0)] 27 (0, 0))) ∧ Aside0 (Below w.heap.size w wc))
             case first =>
              have H := HC39.out
              clear HC39
              by_cases c40 : (x11_2.length : Int) > 0
              ·rw [if_pos c40] at H
               have c40b0 : decide (0 < (x11_2.length : Int)) = true := decide_eq_true c40
               have c40b1 : decide (0 < x11_2.length) = true := decide_eq_true (by omega)
               clear c40
               (first | rw [c40b0] | (simp only [i64_w, i32_w]; rw [c40b0]) | skip)
               have H' := Aside0.mk H
               clear H
               obtain ⟨Ao41, co41, eo41⟩ := Kd.R_slice HO_11.out
               subst eo41
               obtain ⟨Ao42, co42, eo42⟩ := Kd.R_slice HO_12.out
               subst eo42
               go_wp2
               go_meet
               case rel => exact ⟨_, (decide ((x12_2.length : Int) > 0)), (by first | rfl | (simp; done) | (simp [*]; done)), H', ⟨by have := HK1.out; have := HK2.out; first | omega | exact Nat.le_refl _⟩, ⟨by (with_reducible repeat (first | apply Kd.R_alloc | apply Kd.R_drewN | apply Kd.R_drew)); exact HO_9.out⟩, ⟨by (with_reducible repeat (first | apply Kd.R_alloc | apply Kd.R_drewN | apply Kd.R_drew)); exact HO_10.out⟩, ⟨by (with_reducible repeat (first | apply Kd.R_alloc | apply Kd.R_drewN | apply Kd.R_drew)); exact HO_11.out⟩, ⟨by (with_reducible repeat (first | apply Kd.R_alloc | apply Kd.R_drewN | apply Kd.R_drew)); exact HO_12.out⟩, ⟨by (with_reducible repeat (first | refine blk_drewN ?_ _ | refine blk_drew ?_ | refine blk_alloc ?_ _)); exact BK191.out⟩, ⟨by repeat (first | (with_reducible first | exact HB.out | apply below_alloc | apply pw_below_drewN | apply below_drew1 | refine below_set ?_ GE191.out) | exact HB.out)⟩⟩
              ·rw [if_neg c40] at H
               have c40b0 : decide (0 < (x11_2.length : Int)) = false := decide_eq_false c40
               have c40b1 : decide (0 < x11_2.length) = false := decide_eq_false (by omega)
               clear c40
               (first | rw [c40b0] | (simp only [i64_w, i32_w]; rw [c40b0]) | skip)
               have H' := Aside0.mk H
               clear H
               obtain ⟨Ao43, co43, eo43⟩ := Kd.R_slice HO_11.out
               subst eo43
               go_wp2
               go_meet
               case rel => exact ⟨_, (false), (by first | rfl | (simp; done) | (simp [*]; done)), H', ⟨by have := HK1.out; have := HK2.out; first | omega | exact Nat.le_refl _⟩, ⟨by (with_reducible repeat (first | apply Kd.R_alloc | apply Kd.R_drewN | apply Kd.R_drew)); exact HO_9.out⟩, ⟨by (with_reducible repeat (first | apply Kd.R_alloc | apply Kd.R_drewN | apply Kd.R_drew)); exact HO_10.out⟩, ⟨by (with_reducible repeat (first | apply Kd.R_alloc | apply Kd.R_drewN | apply Kd.R_drew)); exact HO_11.out⟩, ⟨by (with_reducible repeat (first | apply Kd.R_alloc | apply Kd.R_drewN | apply Kd.R_drew)); exact HO_12.out⟩, ⟨by (with_reducible repeat (first | refine blk_drewN ?_ _ | refine blk_drew ?_ | refine blk_alloc ?_ _)); exact BK191.out⟩, ⟨by repeat (first | (with_reducible first | exact HB.out | apply below_alloc | apply pw_below_drewN | apply below_drew1 | refine below_set ?_ GE191.out) | exact HB.out)⟩⟩
             case rest =>
              clear HC39
              try clear c1
              try clear c2
              try clear c2b0
              try clear c2b1
              try clear c2b2
              try clear p2
              try clear q2
              try clear hx2
              try clear hf2
              try clear c3
              try clear hx3
              try clear hf3
              try clear c4
              try clear c5
              try clear c6
              try clear p6
              try clear c7
              try clear c7b0
              try clear c7b1
              try clear c11
              try clear c12
              try clear c12b0
              try clear c12b1
              try clear c13
              try clear c13b0
              try clear c13b1
              try clear c14
              try clear c14b0
              try clear c14b1
              try clear c15
              try clear c20
              try clear c20b0
              try clear p20
              try clear q20
              try clear hx20
              try clear c21
              try clear c21b0
              try clear c22
              try clear c22b0
              try clear p23
              try clear q23
              try clear hx23
              try clear hf23
              try clear c24
              try clear c24b0
              try clear c25
              try clear p25
              try clear q25
              try clear hx25
              try clear hf25
              try clear c26
              try clear c26b0
              try clear c27
              try clear c30
              try clear hx30
              try clear hf30
              try clear c33
              try clear c36
              try clear hx36
              try clear hf36
              try clear c40
              try clear c40b0
              try clear c40b1
              try clear hcz4_0
              try clear hcz4_1
              try clear hcz9_0
              try clear hcz9_1
              try clear hfz4_0
              try clear hfz4_1
              try clear hfz9_0
              try clear hfz9_1
              try clear hx202_0
              try clear hx205_0
              try clear hx23_0
              try clear hx25_0
              try clear hx25_1
              try clear hx30_0
              try clear hx30_1
              try clear hx36_0
              try clear hx36_1
              try clear p2
              try clear p20
              try clear p202
              try clear p205
              try clear p23
              try clear p25
              try clear p6
              try clear q2
              try clear q20
              try clear q202
              try clear q205
              try clear q23
              try clear q25
              obtain ⟨kq, x91_38, rfl, HA, HJ38, HO_9, HO_10, HO_11, HO_12, BK191, HB⟩ := hcut
              cases kq with
              | zero => exact absurd HA.out (by simp [drawlotref14_Build.j2])
              | succ kj38 =>
               have H := HA.out
               clear HA
               simp only [drawlotref14_Build.j2] at H
               by_cases c44 : x91_38 = true
               ·subst c44
                have H1 : (if 0 ≤ (wrap64 ((x11_2.length : Int) - 1)) then (if (wrap64 ((x11_2.length : Int) - 1)) < (x11_2.length : Int) then (if 0 ≤ (wrap64 ((x12_2.length : Int) - 1)) then (if (wrap64 ((x12_2.length : Int) - 1)) < (x12_2.length : Int) then (if (wrap64 ((x11_2.length : Int) - 1)) ≤ (x11_2.length : Int) then ((some (x11_2.take ((wrap64 ((x11_2.length : Int) - 1)) : Int).toNat : List Int)).bind fun y214 => (if (wrap64 ((x12_2.length : Int) - 1)) ≤ (x12_2.length : Int) then ((some (x12_2.take ((wrap64 ((x12_2.length : Int) - 1)) : Int).toNat : List Int)).bind fun y217 => (if 0 ≤ (rd x11_2 (wrap64 ((x11_2.length : Int) - 1))) then (if (rd x11_2 (wrap64 ((x11_2.length : Int) - 1))) < (x9_2.length : Int) then (if (rd x11_2 (wrap64 ((x11_2.length : Int) - 1))) < (x10_2.length : Int) then ((some (x10_2.set ((rd x11_2 (wrap64 ((x11_2.length : Int) - 1))) : Int).toNat (⟨rd x9_2 (rd x11_2 (wrap64 ((x11_2.length : Int) - 1))), rd x12_2 (wrap64 ((x12_2.length : Int) - 1))⟩ : S62) : List (S62))).bind fun y221 => (if 0 ≤ (rd x12_2 (wrap64 ((x12_2.length : Int) - 1))) then (if (rd x12_2 (wrap64 ((x12_2.length : Int) - 1))) < (x9_2.length : Int) then ((some (x9_2.set ((rd x12_2 (wrap64 ((x12_2.length : Int) - 1))) : Int).toNat (IntKind.u64.wrap ((rd x9_2 (rd x12_2 (wrap64 ((x12_2.length : Int) - 1)))) - (IntKind.u64.wrap (t192 - (rd x9_2 (rd x11_2 (wrap64 ((x11_2.length : Int) - 1)))))))) : List Int)).bind fun y224 => (if (IntKind.u64.wrap ((rd x9_2 (rd x12_2 (wrap64 ((x12_2.length : Int) - 1)))) - (IntKind.u64.wrap (t192 - (rd x9_2 (rd x11_2 (wrap64 ((x11_2.length : Int) - 1)))))))) < t192 then (if y214.length < 17592186044416 then (drawlotref14_Build.l1 kj38 t192 y224 y221 (y214 ++ [rd x12_2 (wrap64 ((x12_2.length : Int) - 1))]) y217) else (none)) else (if y217.length < 17592186044416 then (drawlotref14_Build.l1 kj38 t192 y224 y221 y214 (y217 ++ [rd x12_2 (wrap64 ((x12_2.length : Int) - 1))])) else (none)))) else (none)) else (none))) else (none)) else (none)) else (none))) else (none))) else (none)) else (none)) else (none)) else (none)) else (none)) = some (r1, r2, r3) := by rw [if_pos rfl] at H; exact H
                clear H
                have H := H1
                clear H1
                obtain ⟨ji45, hji45⟩ : ∃ j_ : Int, (wrap64 ((x11_2.length : Int) - 1)) = j_ := ⟨_, rfl⟩
                replace H : (if 0 ≤ (ji45) then (if (ji45) < (x11_2.length : Int) then (if 0 ≤ (wrap64 ((x12_2.length : Int) - 1)) then (if (wrap64 ((x12_2.length : Int) - 1)) < (x12_2.length : Int) then (if (ji45) ≤ (x11_2.length : Int) then ((some (x11_2.take ((ji45) : Int).toNat : List Int)).bind fun y214 => (if (wrap64 ((x12_2.length : Int) - 1)) ≤ (x12_2.length : Int) then ((some (x12_2.take ((wrap64 ((x12_2.length : Int) - 1)) : Int).toNat : List Int)).bind fun y217 => (if 0 ≤ (rd x11_2 (ji45)) then (if (rd x11_2 (ji45)) < (x9_2.length : Int) then (if (rd x11_2 (ji45)) < (x10_2.length : Int) then ((some (x10_2.set ((rd x11_2 (ji45)) : Int).toNat (⟨rd x9_2 (rd x11_2 (ji45)), rd x12_2 (wrap64 ((x12_2.length : Int) - 1))⟩ : S62) : List (S62))).bind fun y221 => (if 0 ≤ (rd x12_2 (wrap64 ((x12_2.length : Int) - 1))) then (if (rd x12_2 (wrap64 ((x12_2.length : Int) - 1))) < (x9_2.length : Int) then ((some (x9_2.set ((rd x12_2 (wrap64 ((x12_2.length : Int) - 1))) : Int).toNat (IntKind.u64.wrap ((rd x9_2 (rd x12_2 (wrap64 ((x12_2.length : Int) - 1)))) - (IntKind.u64.wrap (t192 - (rd x9_2 (rd x11_2 (ji45))))))) : List Int)).bind fun y224 => (if (IntKind.u64.wrap ((rd x9_2 (rd x12_2 (wrap64 ((x12_2.length : Int) - 1)))) - (IntKind.u64.wrap (t192 - (rd x9_2 (rd x11_2 (ji45))))))) < t192 then (if y214.length < 17592186044416 then (drawlotref14_Build.l1 kj38 t192 y224 y221 (y214 ++ [rd x12_2 (wrap64 ((x12_2.length : Int) - 1))]) y217) else (none)) else (if y217.length < 17592186044416 then (drawlotref14_Build.l1 kj38 t192 y224 y221 y214 (y217 ++ [rd x12_2 (wrap64 ((x12_2.length : Int) - 1))])) else (none)))) else (none)) else (none))) else (none)) else (none)) else (none))) else (none))) else (none)) else (none)) else (none)) else (none)) else (none)) = some (r1, r2, r3) := by first | (rw [hji45] at H; exact H) | (simp only [hji45] at H ⊢; exact H)
                have hji45w : (IntKind.i64.wrap ((x11_2.length : Int) - 1)) = ji45 := (i64_w _).trans hji45
                by_cases c46 : 0 ≤ (ji45)
                ·rw [if_pos c46] at H
                 have c46b0 : decide (0 ≤ (ji45)) = true := decide_eq_true c46
                 clear c46
                 by_cases c47 : (ji45) < (x11_2.length : Int)
                 ·rw [if_pos c47] at H
                  have c47b0 : decide ((ji45) < (x11_2.length : Int)) = true := decide_eq_true c47
                  clear c47
                  obtain ⟨ji48, hji48⟩ : ∃ j_ : Int, (wrap64 ((x12_2.length : Int) - 1)) = j_ := ⟨_, rfl⟩
                  replace H : (if 0 ≤ (ji48) then (if (ji48) < (x12_2.length : Int) then (if (ji45) ≤ (x11_2.length : Int) then ((some (x11_2.take ((ji45) : Int).toNat : List Int)).bind fun y214 => (if (ji48) ≤ (x12_2.length : Int) then ((some (x12_2.take ((ji48) : Int).toNat : List Int)).bind fun y217 => (if 0 ≤ (rd x11_2 (ji45)) then (if (rd x11_2 (ji45)) < (x9_2.length : Int) then (if (rd x11_2 (ji45)) < (x10_2.length : Int) then ((some (x10_2.set ((rd x11_2 (ji45)) : Int).toNat (⟨rd x9_2 (rd x11_2 (ji45)), rd x12_2 (ji48)⟩ : S62) : List (S62))).bind fun y221 => (if 0 ≤ (rd x12_2 (ji48)) then (if (rd x12_2 (ji48)) < (x9_2.length : Int) then ((some (x9_2.set ((rd x12_2 (ji48)) : Int).toNat (IntKind.u64.wrap ((rd x9_2 (rd x12_2 (ji48))) - (IntKind.u64.wrap (t192 - (rd x9_2 (rd x11_2 (ji45))))))) : List Int)).bind fun y224 => (if (IntKind.u64.wrap ((rd x9_2 (rd x12_2 (ji48))) - (IntKind.u64.wrap (t192 - (rd x9_2 (rd x11_2 (ji45))))))) < t192 then (if y214.length < 17592186044416 then (drawlotref14_Build.l1 kj38 t192 y224 y221 (y214 ++ [rd x12_2 (ji48)]) y217) else (none)) else (if y217.length < 17592186044416 then (drawlotref14_Build.l1 kj38 t192 y224 y221 y214 (y217 ++ [rd x12_2 (ji48)])) else (none)))) else (none)) else (none))) else (none)) else (none)) else (none))) else (none))) else (none)) else (none)) else (none)) = some (r1, r2, r3) := by first | (rw [hji48] at H; exact H) | (simp only [hji48] at H ⊢; exact H)
                  have hji48w : (IntKind.i64.wrap ((x12_2.length : Int) - 1)) = ji48 := (i64_w _).trans hji48
                  by_cases c49 : 0 ≤ (ji48)
                  ·rw [if_pos c49] at H
                   have c49b0 : decide (0 ≤ (ji48)) = true := decide_eq_true c49
                   clear c49
                   by_cases c50 : (ji48) < (x12_2.length : Int)
                   ·rw [if_pos c50] at H
                    have c50b0 : decide ((ji48) < (x12_2.length : Int)) = true := decide_eq_true c50
                    clear c50
                    by_cases c51 : (ji45) ≤ (x11_2.length : Int)
                    ·rw [if_pos c51] at H
                     have c51b0 := eq_true c51
                     have c51b1 : decide ((ji45) ≤ (x11_2.length : Int)) = true := decide_eq_true c51
                     clear c51
                     obtain ⟨y214, hy214⟩ : ∃ y_ : List Int, y_ = (x11_2.take ((ji45) : Int).toNat) := ⟨_, rfl⟩
                     replace H : (if (ji48) ≤ (x12_2.length : Int) then ((some (x12_2.take ((ji48) : Int).toNat : List Int)).bind fun y217 => (if 0 ≤ (rd x11_2 (ji45)) then (if (rd x11_2 (ji45)) < (x9_2.length : Int) then (if (rd x11_2 (ji45)) < (x10_2.length : Int) then ((some (x10_2.set ((rd x11_2 (ji45)) : Int).toNat (⟨rd x9_2 (rd x11_2 (ji45)), rd x12_2 (ji48)⟩ : S62) : List (S62))).bind fun y221 => (if 0 ≤ (rd x12_2 (ji48)) then (if (rd x12_2 (ji48)) < (x9_2.length : Int) then ((some (x9_2.set ((rd x12_2 (ji48)) : Int).toNat (IntKind.u64.wrap ((rd x9_2 (rd x12_2 (ji48))) - (IntKind.u64.wrap (t192 - (rd x9_2 (rd x11_2 (ji45))))))) : List Int)).bind fun y224 => (if (IntKind.u64.wrap ((rd x9_2 (rd x12_2 (ji48))) - (IntKind.u64.wrap (t192 - (rd x9_2 (rd x11_2 (ji45))))))) < t192 then (if y214.length < 17592186044416 then (drawlotref14_Build.l1 kj38 t192 y224 y221 (y214 ++ [rd x12_2 (ji48)]) y217) else (none)) else (if y217.length < 17592186044416 then (drawlotref14_Build.l1 kj38 t192 y224 y221 y214 (y217 ++ [rd x12_2 (ji48)])) else (none)))) else (none)) else (none))) else (none)) else (none)) else (none))) else (none)) = some (r1, r2, r3) := by first | (rw [hy214]; with_reducible exact H) | (have H2_ := (Option.bind_some _ _).symm.trans H; rw [hy214]; with_reducible exact H2_) | (have H2_ := (Option.bind_some _ _).symm.trans H; with_reducible exact H2_) | with_reducible exact H | (rw [hy214]; exact H) | exact H
                     have Ny214 := Aside0.mk hy214
                     clear hy214
                     by_cases c52 : (ji48) ≤ (x12_2.length : Int)
                     ·rw [if_pos c52] at H
                      have c52b0 := eq_true c52
                      have c52b1 : decide ((ji48) ≤ (x12_2.length : Int)) = true := decide_eq_true c52
                      clear c52
                      obtain ⟨y217, hy217⟩ : ∃ y_ : List Int, y_ = (x12_2.take ((ji48) : Int).toNat) := ⟨_, rfl⟩
                      replace H : (if 0 ≤ (rd x11_2 (ji45)) then (if (rd x11_2 (ji45)) < (x9_2.length : Int) then (if (rd x11_2 (ji45)) < (x10_2.length : Int) then ((some (x10_2.set ((rd x11_2 (ji45)) : Int).toNat (⟨rd x9_2 (rd x11_2 (ji45)), rd x12_2 (ji48)⟩ : S62) : List (S62))).bind fun y221 => (if 0 ≤ (rd x12_2 (ji48)) then (if (rd x12_2 (ji48)) < (x9_2.length : Int) then ((some (x9_2.set ((rd x12_2 (ji48)) : Int).toNat (IntKind.u64.wrap ((rd x9_2 (rd x12_2 (ji48))) - (IntKind.u64.wrap (t192 - (rd x9_2 (rd x11_2 (ji45))))))) : List Int)).bind fun y224 => (if (IntKind.u64.wrap ((rd x9_2 (rd x12_2 (ji48))) - (IntKind.u64.wrap (t192 - (rd x9_2 (rd x11_2 (ji45))))))) < t192 then (if y214.length < 17592186044416 then (drawlotref14_Build.l1 kj38 t192 y224 y221 (y214 ++ [rd x12_2 (ji48)]) y217) else (none)) else (if y217.length < 17592186044416 then (drawlotref14_Build.l1 kj38 t192 y224 y221 y214 (y217 ++ [rd x12_2 (ji48)])) else (none)))) else (none)) else (none))) else (none)) else (none)) else (none)) = some (r1, r2, r3) := by first | (rw [hy217]; with_reducible exact H) | (have H2_ := (Option.bind_some _ _).symm.trans H; rw [hy217]; with_reducible exact H2_) | (have H2_ := (Option.bind_some _ _).symm.trans H; with_reducible exact H2_) | with_reducible exact H | (rw [hy217]; exact H) | exact H
                      have Ny217 := Aside0.mk hy217
                      clear hy217
                      by_cases c53 : 0 ≤ (rd x11_2 (ji45))
                      ·rw [if_pos c53] at H
                       have c53b0 : decide (0 ≤ (rd x11_2 (ji45))) = true := decide_eq_true c53
                       clear c53
                       by_cases c54 : (rd x11_2 (ji45)) < (x9_2.length : Int)
                       ·rw [if_pos c54] at H
                        have c54b0 : decide ((rd x11_2 (ji45)) < (x9_2.length : Int)) = true := decide_eq_true c54
                        clear c54
                        by_cases c55 : (rd x11_2 (ji45)) < (x10_2.length : Int)
                        ·rw [if_pos c55] at H
                         have c55b0 : decide ((rd x11_2 (ji45)) < (x10_2.length : Int)) = true := decide_eq_true c55
                         clear c55
                         obtain ⟨y221, hy221⟩ : ∃ y_ : List (S62), y_ = (x10_2.set ((rd x11_2 (ji45)) : Int).toNat (⟨rd x9_2 (rd x11_2 (ji45)), rd x12_2 (ji48)⟩ : S62)) := ⟨_, rfl⟩
                         replace H : (if 0 ≤ (rd x12_2 (ji48)) then (if (rd x12_2 (ji48)) < (x9_2.length : Int) then ((some (x9_2.set ((rd x12_2 (ji48)) : Int).toNat (IntKind.u64.wrap ((rd x9_2 (rd x12_2 (ji48))) - (IntKind.u64.wrap (t192 - (rd x9_2 (rd x11_2 (ji45))))))) : List Int)).bind fun y224 => (if (IntKind.u64.wrap ((rd x9_2 (rd x12_2 (ji48))) - (IntKind.u64.wrap (t192 - (rd x9_2 (rd x11_2 (ji45))))))) < t192 then (if y214.length < 17592186044416 then (drawlotref14_Build.l1 kj38 t192 y224 y221 (y214 ++ [rd x12_2 (ji48)]) y217) else (none)) else (if y217.length < 17592186044416 then (drawlotref14_Build.l1 kj38 t192 y224 y221 y214 (y217 ++ [rd x12_2 (ji48)])) else (none)))) else (none)) else (none)) = some (r1, r2, r3) := by first | (rw [hy221]; with_reducible exact H) | (have H2_ := (Option.bind_some _ _).symm.trans H; rw [hy221]; with_reducible exact H2_) | (have H2_ := (Option.bind_some _ _).symm.trans H; with_reducible exact H2_) | with_reducible exact H | (rw [hy221]; exact H) | exact H
                         have Ny221 := Aside0.mk hy221
                         clear hy221
                         by_cases c57 : 0 ≤ (rd x12_2 (ji48))
                         ·rw [if_pos c57] at H
                          have c57b0 : decide (0 ≤ (rd x12_2 (ji48))) = true := decide_eq_true c57
                          clear c57
                          by_cases c58 : (rd x12_2 (ji48)) < (x9_2.length : Int)
                          ·rw [if_pos c58] at H
                           have c58b0 : decide ((rd x12_2 (ji48)) < (x9_2.length : Int)) = true := decide_eq_true c58
                           clear c58
                           obtain ⟨y224, hy224⟩ : ∃ y_ : List Int, y_ = (x9_2.set ((rd x12_2 (ji48)) : Int).toNat (IntKind.u64.wrap ((rd x9_2 (rd x12_2 (ji48))) - (IntKind.u64.wrap (t192 - (rd x9_2 (rd x11_2 (ji45)))))))) := ⟨_, rfl⟩
                           replace H : (if (IntKind.u64.wrap ((rd x9_2 (rd x12_2 (ji48))) - (IntKind.u64.wrap (t192 - (rd x9_2 (rd x11_2 (ji45))))))) < t192 then (if y214.length < 17592186044416 then (drawlotref14_Build.l1 kj38 t192 y224 y221 (y214 ++ [rd x12_2 (ji48)]) y217) else (none)) else (if y217.length < 17592186044416 then (drawlotref14_Build.l1 kj38 t192 y224 y221 y214 (y217 ++ [rd x12_2 (ji48)])) else (none))) = some (r1, r2, r3) := by first | (rw [hy224]; with_reducible exact H) | (have H2_ := (Option.bind_some _ _).symm.trans H; rw [hy224]; with_reducible exact H2_) | (have H2_ := (Option.bind_some _ _).symm.trans H; with_reducible exact H2_) | with_reducible exact H | (rw [hy224]; exact H) | exact H
                           have Ny224 := Aside0.mk hy224
                           clear hy224
                           by_cases c61 : (IntKind.u64.wrap ((rd x9_2 (rd x12_2 (ji48))) - (IntKind.u64.wrap (t192 - (rd x9_2 (rd x11_2 (ji45))))))) < t192
                           ·rw [if_pos c61] at H
                            have c61b0 : decide ((IntKind.u64.wrap ((rd x9_2 (rd x12_2 (ji48))) - (IntKind.u64.wrap (t192 - (rd x9_2 (rd x11_2 (ji45))))))) < t192) = true := decide_eq_true c61
                            clear c61
                            by_cases c62 : y214.length < 17592186044416
                            ·rw [if_pos c62] at H
                             have LMc62 := Aside0.mk c62
                             clear c62
                             obtain ⟨y226, hy226⟩ : ∃ y_ : List Int, y_ = (y214 ++ [rd x12_2 (ji48)]) := ⟨_, rfl⟩
                             replace H : (drawlotref14_Build.l1 kj38 t192 y224 y221 y226 y217) = some (r1, r2, r3) := by first | (rw [hy226]; with_reducible exact H) | (have H2_ := (Option.bind_some _ _).symm.trans H; rw [hy226]; with_reducible exact H2_) | (have H2_ := (Option.bind_some _ _).symm.trans H; with_reducible exact H2_) | with_reducible exact H | (rw [hy226]; exact H) | exact H
                             have Ny226 := Aside0.mk hy226
                             clear hy226
                             have H' := Aside0.mk H
                             clear H
                             try go_wp2
                             have n0_ := Aside0.mk (Kd.R_drew HO_9.out)
                             have n1_ := Aside0.mk (Kd.R_drew HO_10.out)
                             have n2_ := Aside0.mk (Kd.R_drew HO_11.out)
                             have n3_ := Aside0.mk (Kd.R_drew HO_12.out)
                             have n4_ := Aside0.mk (blk_drew BK191.out)
                             have n5_ := Aside0.mk (below_drew1 HB.out)
                             clear HO_9
                             clear HO_10
                             clear HO_11
                             clear HO_12
                             clear BK191
                             clear HB
                             have HO_9 := n0_
                             have HO_10 := n1_
                             have HO_11 := n2_
                             have HO_12 := n3_
                             have BK191 := n4_
                             have HB := n5_
                             clear n0_ n1_ n2_ n3_ n4_ n5_
                             obtain ⟨Ao64, co64, eo64⟩ := Kd.R_slice HO_11.out
                             (first | subst eo64 | (injection eo64 with f1_ f2_ f3_; have f4_ := f1_.symm; have f5_ := f3_.symm; clear f1_ f2_ f3_; subst f4_; subst f5_))
                             have p212 : 0 ≤ ((ji45) : Int) := of_decide_eq_true (by first | (with_reducible assumption) | assumption)
                             have q212 : (ji45) < (x11_2.length : Int) := of_decide_eq_true (by first | (with_reducible assumption) | assumption)
                             obtain ⟨ad212, e212, hx212_0⟩ := Kd.at_int (Kd.R_reads' HO_11.out).2.2 (ji45) p212 q212
                             cases e212
                             replace p212 := eq_true p212
                             replace q212 := eq_true q212
                             obtain ⟨Ao65, co65, eo65⟩ := Kd.R_slice HO_12.out
                             (first | subst eo65 | (injection eo65 with f1_ f2_ f3_; have f4_ := f1_.symm; have f5_ := f3_.symm; clear f1_ f2_ f3_; subst f4_; subst f5_))
                             have p213 : 0 ≤ ((ji48) : Int) := of_decide_eq_true (by first | (with_reducible assumption) | assumption)
                             have q213 : (ji48) < (x12_2.length : Int) := of_decide_eq_true (by first | (with_reducible assumption) | assumption)
                             obtain ⟨ad213, e213, hx213_0⟩ := Kd.at_int (Kd.R_reads' HO_12.out).2.2 (ji48) p213 q213
                             cases e213
                             replace p213 := eq_true p213
                             replace q213 := eq_true q213
                             refine start_ (n := 14) (S := fun w' => w'.cell? (ad212.add ((ji45)).toNat) = some (.int .i64 (rd x11_2 (ji45))) ∧ w'.cell? (ad213.add ((ji48)).toNat) = some (.int .i64 (rd x12_2 (ji48)))) (ds := []) #[false, false, false, false, false, false, false, false, false, false, false, false, false, false] (by kernel_rfl) rfl rfl ⟨hx212_0, hx213_0⟩ (fun hHeld => ?_); refine with_tabW drawlotref14_Build.tab24 drawlotref14_Build.bits24 (fun HT_ HW_ => ?_)
                             generalize wc.drew = w63 at HO_9 HO_10 HO_11 HO_12 BK191 HB hx212_0 hx213_0 hHeld ⊢
                             refine pure_ (i := 0) (N := some 92) (v := ?_) (a' := ?_) #[true, false, false, false, false, false, false, false, false, false, false, false, false, false] rfl rfl (any_of HT_.out (by kernel_rfl)) (fun _ _ _ h => h) (Or.inl ⟨by rfl, ?_⟩) ?_ ?_
                             rotate_left
                             ·intro w'
                              go_simp
                              with_reducible rfl
                             rotate_left
                             ·simp only [Act.put, List.setIfInBounds_toArray, List.set_cons_zero, List.set_cons_succ, i64_w, i32_w]
                              rfl
                             refine pure_ (i := 1) (N := some 93) (v := ?_) (a' := ?_) #[true, true, false, false, false, false, false, false, false, false, false, false, false, false] rfl rfl (any_of HT_.out (by kernel_rfl)) (fun _ _ _ h => h) (Or.inl ⟨by rfl, ?_⟩) ?_ ?_
                             rotate_left
                             ·intro w'
                              go_simp
                              with_reducible rfl
                             rotate_left
                             ·simp only [Act.put, List.setIfInBounds_toArray, List.set_cons_zero, List.set_cons_succ, i64_w, i32_w]
                              rfl
                             refine pure_ (i := 2) (N := some 94) (v := ?_) (a' := ?_) #[true, true, true, false, false, false, false, false, false, false, false, false, false, false] rfl rfl (any_of HT_.out (by kernel_rfl)) (fun _ _ _ h => h) (Or.inl ⟨by rfl, ?_⟩) ?_ ?_
                             rotate_left
                             ·intro w'
                              go_simp
                              with_reducible rfl
                             rotate_left
                             ·simp only [Act.put, List.setIfInBounds_toArray, List.set_cons_zero, List.set_cons_succ, i64_w, i32_w]
                              rfl
                             refine pure_ (i := 3) (N := some 95) (v := ?_) (a' := ?_) #[true, true, true, true, false, false, false, false, false, false, false, false, false, false] rfl rfl (any_of HT_.out (by kernel_rfl)) (fun _ _ _ h => h) (Or.inl ⟨by rfl, ?_⟩) ?_ ?_
                             rotate_left
                             ·intro w'
                              go_simp
                              with_reducible rfl
                             rotate_left
                             ·simp only [Act.put, List.setIfInBounds_toArray, List.set_cons_zero, List.set_cons_succ, i64_w, i32_w]
                              rfl
                             refine pure_ (i := 4) (N := some 96) (v := ?_) (a' := ?_) #[true, true, true, true, true, false, false, false, false, false, false, false, false, false] rfl rfl (any_of HT_.out (by kernel_rfl)) (fun _ _ _ h => h) (Or.inl ⟨by rfl, ?_⟩) ?_ ?_
                             rotate_left
                             ·intro w'
                              go_simp
                              with_reducible rfl
                             rotate_left
                             ·simp only [Act.put, List.setIfInBounds_toArray, List.set_cons_zero, List.set_cons_succ, i64_w, i32_w]
                              rfl
                             refine pure_ (i := 6) (N := some 98) (v := ?_) (a' := ?_) #[true, true, true, true, true, false, true, false, false, false, false, false, false, false] rfl rfl (any_of HT_.out (by kernel_rfl)) (fun _ _ _ h => h) (Or.inl ⟨by rfl, ?_⟩) ?_ ?_
                             rotate_left
                             ·intro w'
                              go_simp
                              with_reducible rfl
                             rotate_left
                             ·simp only [Act.put, List.setIfInBounds_toArray, List.set_cons_zero, List.set_cons_succ, i64_w, i32_w]
                              rfl
                             refine pure_ (i := 7) (N := some 99) (v := ?_) (a' := ?_) #[true, true, true, true, true, false, true, true, false, false, false, false, false, false] rfl rfl (any_of HT_.out (by kernel_rfl)) (fun _ _ _ h => h) (Or.inl ⟨by rfl, ?_⟩) ?_ ?_
                             rotate_left
                             ·intro w'
                              go_simp
                              with_reducible rfl
                             rotate_left
                             ·simp only [Act.put, List.setIfInBounds_toArray, List.set_cons_zero, List.set_cons_succ, i64_w, i32_w]
                              rfl
                             refine pure_ (i := 8) (N := some 100) (v := ?_) (a' := ?_) #[true, true, true, true, true, false, true, true, true, false, false, false, false, false] rfl rfl (any_of HT_.out (by kernel_rfl)) (fun _ _ _ h => h) (Or.inl ⟨by rfl, ?_⟩) ?_ ?_
                             rotate_left
                             ·intro w'
                              go_simp
                              with_reducible rfl
                             rotate_left
                             ·simp only [Act.put, List.setIfInBounds_toArray, List.set_cons_zero, List.set_cons_succ, i64_w, i32_w]
                              rfl
                             refine pure_ (i := 9) (N := some 101) (v := ?_) (a' := ?_) #[true, true, true, true, true, false, true, true, true, true, false, false, false, false] rfl rfl (any_of HT_.out (by kernel_rfl)) (fun _ _ _ h => h) (Or.inl ⟨by rfl, ?_⟩) ?_ ?_
                             rotate_left
                             ·intro w'
                              go_simp
                              with_reducible rfl
                             rotate_left
                             ·simp only [Act.put, List.setIfInBounds_toArray, List.set_cons_zero, List.set_cons_succ, i64_w, i32_w]
                              rfl
                             refine pure_ (i := 10) (N := some 102) (v := ?_) (a' := ?_) #[true, true, true, true, true, false, true, true, true, true, true, false, false, false] rfl rfl (any_of HT_.out (by kernel_rfl)) (fun _ _ _ h => h) (Or.inl ⟨by rfl, ?_⟩) ?_ ?_
                             rotate_left
                             ·intro w'
                              go_simp
                              with_reducible rfl
                             rotate_left
                             ·simp only [Act.put, List.setIfInBounds_toArray, List.set_cons_zero, List.set_cons_succ, i64_w, i32_w]
                              rfl
                             refine take_ (i := 5) (N := some 97) (v := ?_) (a' := ?_) #[true, true, true, true, true, true, true, true, true, true, true, false, false, false] rfl rfl (take_ofW HT_.out HW_.out (by kernel_rfl)) (fun _ _ _ h => h) (Or.inl ⟨by rfl, ?_⟩) hHeld ?_ ?_
                             rotate_left
                             ·rintro w' ⟨s0, s1⟩
                              go_simp
                              with_reducible rfl
                             rotate_left
                             ·simp only [Act.put, List.setIfInBounds_toArray, List.set_cons_zero, List.set_cons_succ, i64_w, i32_w]
                              rfl
                             refine pure_ (i := 12) (N := some 14) (v := ?_) (a' := ?_) #[true, true, true, true, true, true, true, true, true, true, true, false, true, false] rfl rfl (any_of HT_.out (by kernel_rfl)) (fun _ _ _ h => h) (Or.inl ⟨by rfl, ?_⟩) ?_ ?_
                             rotate_left
                             ·intro w'
                              go_simp
                              with_reducible rfl
                             rotate_left
                             ·simp only [Act.put, List.setIfInBounds_toArray, List.set_cons_zero, List.set_cons_succ, i64_w, i32_w]
                              rfl
                             refine take_ (i := 11) (N := some 103) (v := ?_) (a' := ?_) #[true, true, true, true, true, true, true, true, true, true, true, true, true, false] rfl rfl (take_ofW HT_.out HW_.out (by kernel_rfl)) (fun _ _ _ h => h) (Or.inl ⟨by rfl, ?_⟩) hHeld ?_ ?_
                             rotate_left
                             ·rintro w' ⟨s0, s1⟩
                              go_simp
                              with_reducible rfl
                             rotate_left
                             ·simp only [Act.put, List.setIfInBounds_toArray, List.set_cons_zero, List.set_cons_succ, i64_w, i32_w]
                              rfl
                             refine pure_ (i := 13) (N := some 15) (v := ?_) (a' := ?_) #[true, true, true, true, true, true, true, true, true, true, true, true, true, true] rfl rfl (any_of HT_.out (by kernel_rfl)) (fun _ _ _ h => h) (Or.inl ⟨by rfl, ?_⟩) ?_ ?_
                             rotate_left
                             ·intro w'
                              go_simp
                              with_reducible rfl
                             rotate_left
                             ·simp only [Act.put, List.setIfInBounds_toArray, List.set_cons_zero, List.set_cons_succ, i64_w, i32_w]
                              rfl
                             refine done_ (done_of HT_.out (by kernel_rfl)) ?_
                             try go_wp2
                             have n0_ := Aside0.mk (Kd.R_drew HO_9.out)
                             have n1_ := Aside0.mk (Kd.R_drew HO_10.out)
                             have n2_ := Aside0.mk (Kd.R_drew HO_11.out)
                             have n3_ := Aside0.mk (Kd.R_drew HO_12.out)
                             have n4_ := Aside0.mk (blk_drew BK191.out)
                             have n5_ := Aside0.mk (below_drew1 HB.out)
                             clear HO_9
                             clear HO_10
                             clear HO_11
                             clear HO_12
                             clear BK191
                             clear HB
                             have HO_9 := n0_
                             have HO_10 := n1_
                             have HO_11 := n2_
                             have HO_12 := n3_
                             have BK191 := n4_
                             have HB := n5_
                             clear n0_ n1_ n2_ n3_ n4_ n5_
                             have q67 : ((ji45) : Int) ≤ ((x11_2.length : Int) : Int) := of_decide_eq_true (by first | (with_reducible assumption) | assumption)
                             obtain ⟨i067, hi067, _, hsz67, _⟩ := info_parts info3
                             have hcut67 := cut_to (P := Try.prog) 65 3 .i64 Try.underlying65 hi067 (some ad212) x11_2.length co64 (ji45) (of_decide_eq_true (by first | (with_reducible assumption) | assumption)) q67 (Kd.R_reads' HO_11.out).2.1
                             have hr67 := Kd.R_take (m := ((ji45) : Int).toNat) HO_11.out (by omega)
                             have hy67 : y214.length = ((ji45) : Int).toNat := (by rw [Ny214.out, List.length_take]; omega)
                             rw [← Ny214.out] at hr67
                             rw [← hy67] at hr67 hcut67
                             clear hy67 hi067 hsz67 HO_11
                             have HO216 := Aside0.mk hr67
                             clear hr67
                             replace q67 := eq_true q67
                             have q68 : ((ji48) : Int) ≤ ((x12_2.length : Int) : Int) := of_decide_eq_true (by first | (with_reducible assumption) | assumption)
                             obtain ⟨i068, hi068, _, hsz68, _⟩ := info_parts info3
                             have hcut68 := cut_to (P := Try.prog) 65 3 .i64 Try.underlying65 hi068 (some ad213) x12_2.length co65 (ji48) (of_decide_eq_true (by first | (with_reducible assumption) | assumption)) q68 (Kd.R_reads' HO_12.out).2.1
                             have hr68 := Kd.R_take (m := ((ji48) : Int).toNat) HO_12.out (by omega)
                             have hy68 : y217.length = ((ji48) : Int).toNat := (by rw [Ny217.out, List.length_take]; omega)
                             rw [← Ny217.out] at hr68
                             rw [← hy68] at hr68 hcut68
                             clear hy68 hi068 hsz68 HO_12
                             have HO219 := Aside0.mk hr68
                             clear hr68
                             replace q68 := eq_true q68
                             refine start_ (n := 12) (S := fun w' => True) (ds := []) #[false, false, false, false, false, false, false, false, false, false, false, false] (by kernel_rfl) rfl rfl trivial (fun hHeld => ?_); refine with_tabW drawlotref14_Build.tab25 drawlotref14_Build.bits25 (fun HT_ HW_ => ?_)
                             generalize w63.drew = w66 at HO_9 HO_10 HO_11 HO_12 BK191 HB HO216 HO219 hHeld ⊢
                             refine pure_ (i := 0) (N := some 104) (v := ?_) (a' := ?_) #[true, false, false, false, false, false, false, false, false, false, false, false] rfl rfl (any_of HT_.out (by kernel_rfl)) (fun _ _ _ h => h) (Or.inl ⟨by rfl, ?_⟩) ?_ ?_
                             rotate_left
                             ·intro w'
                              go_simp
                              with_reducible rfl
                             rotate_left
                             ·simp only [Act.put, List.setIfInBounds_toArray, List.set_cons_zero, List.set_cons_succ, i64_w, i32_w]
                              rfl
                             refine pure_ (i := 1) (N := some 105) (v := ?_) (a' := ?_) #[true, true, false, false, false, false, false, false, false, false, false, false] rfl rfl (any_of HT_.out (by kernel_rfl)) (fun _ _ _ h => h) (Or.inl ⟨by rfl, ?_⟩) ?_ ?_
                             rotate_left
                             ·intro w'
                              go_simp
                              with_reducible rfl
                             rotate_left
                             ·simp only [Act.put, List.setIfInBounds_toArray, List.set_cons_zero, List.set_cons_succ, i64_w, i32_w]
                              rfl
                             refine pure_ (i := 2) (N := some 106) (v := ?_) (a' := ?_) #[true, true, true, false, false, false, false, false, false, false, false, false] rfl rfl (any_of HT_.out (by kernel_rfl)) (fun _ _ _ h => h) (Or.inl ⟨by rfl, ?_⟩) ?_ ?_
                             rotate_left
                             ·intro w'
                              go_simp
                              with_reducible rfl
                             rotate_left
                             ·simp only [Act.put, List.setIfInBounds_toArray, List.set_cons_zero, List.set_cons_succ, i64_w, i32_w]
                              rfl
                             refine pure_ (i := 3) (N := some 107) (v := ?_) (a' := ?_) #[true, true, true, true, false, false, false, false, false, false, false, false] rfl rfl (any_of HT_.out (by kernel_rfl)) (fun _ _ _ h => h) (Or.inl ⟨by rfl, ?_⟩) ?_ ?_
                             rotate_left
                             ·intro w'
                              go_simp
                              with_reducible rfl
                             rotate_left
                             ·simp only [Act.put, List.setIfInBounds_toArray, List.set_cons_zero, List.set_cons_succ, i64_w, i32_w]
                              rfl
                             refine pure_ (i := 4) (N := some 108) (v := ?_) (a' := ?_) #[true, true, true, true, true, false, false, false, false, false, false, false] rfl rfl (any_of HT_.out (by kernel_rfl)) (fun _ _ _ h => h) (Or.inl ⟨by rfl, ?_⟩) ?_ ?_
                             rotate_left
                             ·intro w'
                              go_simp
                              with_reducible rfl
                             rotate_left
                             ·simp only [Act.put, List.setIfInBounds_toArray, List.set_cons_zero, List.set_cons_succ, i64_w, i32_w]
                              rfl
                             refine pure_ (i := 5) (N := some 109) (v := ?_) (a' := ?_) #[true, true, true, true, true, true, false, false, false, false, false, false] rfl rfl (any_of HT_.out (by kernel_rfl)) (fun _ _ _ h => h) (Or.inl ⟨by rfl, ?_⟩) ?_ ?_
                             rotate_left
                             ·intro w'
                              go_simp
                              with_reducible rfl
                             rotate_left
                             ·simp only [Act.put, List.setIfInBounds_toArray, List.set_cons_zero, List.set_cons_succ, i64_w, i32_w]
                              rfl
                             refine pure_ (i := 6) (N := some 110) (v := ?_) (a' := ?_) #[true, true, true, true, true, true, true, false, false, false, false, false] rfl rfl (any_of HT_.out (by kernel_rfl)) (fun _ _ _ h => h) (Or.inl ⟨by rfl, ?_⟩) ?_ ?_
                             rotate_left
                             ·intro w'
                              go_simp
                              with_reducible rfl
                             rotate_left
                             ·simp only [Act.put, List.setIfInBounds_toArray, List.set_cons_zero, List.set_cons_succ, i64_w, i32_w]
                              rfl
                             refine pure_ (i := 7) (N := some 111) (v := ?_) (a' := ?_) #[true, true, true, true, true, true, true, true, false, false, false, false] rfl rfl (any_of HT_.out (by kernel_rfl)) (fun _ _ _ h => h) (Or.inl ⟨by rfl, ?_⟩) ?_ ?_
                             rotate_left
                             ·intro w'
                              go_simp
                              with_reducible rfl
                             rotate_left
                             ·simp only [Act.put, List.setIfInBounds_toArray, List.set_cons_zero, List.set_cons_succ, i64_w, i32_w]
                              rfl
                             refine pure_ (i := 8) (N := some 112) (v := ?_) (a' := ?_) #[true, true, true, true, true, true, true, true, true, false, false, false] rfl rfl (any_of HT_.out (by kernel_rfl)) (fun _ _ _ h => h) (Or.inl ⟨by rfl, ?_⟩) ?_ ?_
                             rotate_left
                             ·intro w'
                              go_simp
                              with_reducible rfl
                             rotate_left
                             ·simp only [Act.put, List.setIfInBounds_toArray, List.set_cons_zero, List.set_cons_succ, i64_w, i32_w]
                              rfl
                             refine pure_ (i := 9) (N := some 113) (v := ?_) (a' := ?_) #[true, true, true, true, true, true, true, true, true, true, false, false] rfl rfl (any_of HT_.out (by kernel_rfl)) (fun _ _ _ h => h) (Or.inl ⟨by rfl, ?_⟩) ?_ ?_
                             rotate_left
                             ·intro w'
                              go_simp
                              with_reducible rfl
                             rotate_left
                             ·simp only [Act.put, List.setIfInBounds_toArray, List.set_cons_zero, List.set_cons_succ, i64_w, i32_w]
                              rfl
                             refine pure_ (i := 10) (N := some 11) (v := ?_) (a' := ?_) #[true, true, true, true, true, true, true, true, true, true, true, false] rfl rfl (any_of HT_.out (by kernel_rfl)) (fun _ _ _ h => h) (Or.inl ⟨by rfl, ?_⟩) ?_ ?_
                             rotate_left
                             ·intro w'
                              go_simp
                              with_reducible rfl
                             rotate_left
                             ·simp only [Act.put, List.setIfInBounds_toArray, List.set_cons_zero, List.set_cons_succ, i64_w, i32_w]
                              rfl
                             refine pure_ (i := 11) (N := some 12) (v := ?_) (a' := ?_) #[true, true, true, true, true, true, true, true, true, true, true, true] rfl rfl (any_of HT_.out (by kernel_rfl)) (fun _ _ _ h => h) (Or.inl ⟨by rfl, ?_⟩) ?_ ?_
                             rotate_left
                             ·intro w'
                              go_simp
                              with_reducible rfl
                             rotate_left
                             ·simp only [Act.put, List.setIfInBounds_toArray, List.set_cons_zero, List.set_cons_succ, i64_w, i32_w]
                              rfl
                             refine done_ (done_of HT_.out (by kernel_rfl)) ?_
                             obtain ⟨Ao69, co69, eo69⟩ := Kd.R_slice HO_9.out
                             subst eo69
                             have p220 : 0 ≤ ((rd x11_2 (ji45)) : Int) := of_decide_eq_true (by first | (with_reducible assumption) | assumption)
                             have q220 : (rd x11_2 (ji45)) < (x9_2.length : Int) := of_decide_eq_true (by first | (with_reducible assumption) | assumption)
                             obtain ⟨ad220, e220, hx220_0⟩ := Kd.at_int (Kd.R_reads' HO_9.out).2.2 (rd x11_2 (ji45)) p220 q220
                             cases e220
                             replace p220 := eq_true p220
                             replace q220 := eq_true q220
                             have p56 : 0 ≤ ((rd x11_2 (ji45)) : Int) := of_decide_eq_true (by first | (with_reducible assumption) | assumption)
                             have q56 : ((rd x11_2 (ji45)) : Int) < ((x10_2.length : Int) : Int) := of_decide_eq_true (by first | (with_reducible assumption) | assumption)
                             obtain ⟨go56, co56, eo56, gb56, gl56, cl56, HG56⟩ := Kd.R_form HO_10.out (by omega)
                             (first | cases eo56 | (injection eo56 with ea_ en_ ec_; (first | subst ea_ | (injection ea_ with ea_; subst ea_)); subst ec_; clear en_))
                             have GB56 := Aside0.mk gb56
                             have GG56 := Aside0.mk HG56
                             clear gb56 gl56 HG56
                             obtain ⟨ce56, hcl56, hM56, hcc56, hfr56⟩ := Kd.R_elem HO_10.out z62 ((rd x11_2 (ji45)) : Int) p56 q56
                             obtain rfl := k62_openM hM56
                             have hx56_0 : w66.cell? ⟨go56, ((rd x11_2 (ji45)) : Int).toNat * 2, none⟩ = some (.int .u64 ((rd_T62 x10_2 (rd x11_2 (ji45))).f0)) := hcc56 0 _ rfl
                             have hx56_1 : w66.cell? ⟨go56, ((rd x11_2 (ji45)) : Int).toNat * 2 + 1, none⟩ = some (.int .i64 ((rd_T62 x10_2 (rd x11_2 (ji45))).f1)) := hcc56 1 _ rfl
                             have hf56_0 : w66.frozen? ⟨go56, ((rd x11_2 (ji45)) : Int).toNat * 2, none⟩ = false := hfr56 0
                             have hf56_1 : w66.frozen? ⟨go56, ((rd x11_2 (ji45)) : Int).toNat * 2 + 1, none⟩ = false := hfr56 1
                             clear hcl56 hcc56 hfr56 hM56
                             replace p56 := eq_true p56
                             replace q56 := eq_true q56
                             have HX70 := Aside0.mk (show Kd.R k62 62 w66 w.heap.size (fun _ => True) (.slice (some ⟨go56, 0, none⟩) x10_2.length co56) x10_2 from (by (with_reducible repeat (first | apply Kd.R_alloc | apply Kd.R_drewN | apply Kd.R_drew)); exact HO_10.out))
                             obtain ⟨ce70, hcl70, hM70, hcc70, hfr70⟩ := Kd.R_elem HX70.out z62 ((rd x11_2 (ji45)) : Int) (of_decide_eq_true (by first | (with_reducible assumption) | assumption)) (by have h_ : ((rd x11_2 (ji45)) : Int) < ((x10_2.length : Int) : Int) := of_decide_eq_true (by first | (with_reducible assumption) | assumption); first | exact h_ | (have e_ := (Kd.R_reads' HO_10.out).1; omega) | simpa using h_)
                             obtain rfl := k62_openM hM70
                             have HP70 := Kd.R_seg HX70.out ((rd x11_2 (ji45)) : Int) (of_decide_eq_true (by first | (with_reducible assumption) | assumption)) (by have h_ : ((rd x11_2 (ji45)) : Int) < ((x10_2.length : Int) : Int) := of_decide_eq_true (by first | (with_reducible assumption) | assumption); first | exact h_ | (have e_ := (Kd.R_reads' HO_10.out).1; omega) | simpa using h_) (seg := [.int .u64 (rd x9_2 (rd x11_2 (ji45))), .int .i64 (rd x12_2 (ji48))]) (j := 0) hcl70 hcc70 (show 2 ≤ 2 from by decide) (x' := (⟨rd x9_2 (rd x11_2 (ji45)), rd x12_2 (ji48)⟩ : S62)) (k62_mkM _ _ _ (⟨rd x9_2 (rd x11_2 (ji45)), rd x12_2 (ji48)⟩ : S62) ) (fun _ hk => hk)
                             have hx70_0 := hcc70 0 _ rfl
                             (try simp only [show (k62).sz = 2 from rfl, Nat.mul_one, Nat.add_zero] at hx70_0)
                             have hf70_0 := hfr70 0
                             (try simp only [show (k62).sz = 2 from rfl, Nat.mul_one, Nat.add_zero] at hf70_0)
                             have hx70_1 := hcc70 1 _ rfl
                             (try simp only [show (k62).sz = 2 from rfl, Nat.mul_one, Nat.add_zero] at hx70_1)
                             have hf70_1 := hfr70 1
                             (try simp only [show (k62).sz = 2 from rfl, Nat.mul_one, Nat.add_zero] at hf70_1)
                             clear hcl70 hcc70 hfr70 hM70
                             try go_wp2_with (first | ((with_reducible refine gate_store (t := 62) (p := 122) rfl ?_); refine store_event (t := 62) (p := 122) (v := ?vo_w71) (w1 := ((w66.setCell ⟨go56, ((rd x11_2 (ji45)) : Int).toNat * 2, none⟩ (.int .u64 (rd x9_2 (rd x11_2 (ji45))))).setCell ⟨go56, ((rd x11_2 (ji45)) : Int).toNat * 2 + 1, none⟩ (.int .i64 (rd x12_2 (ji48))))) ?hg ?ho ?hn ?hr ?_; (case ho => rfl); (case hg => rfl); (case hn => rfl); (case hr => first | (go_simp; done) | (go_simp; rfl)); intro w71 hw; have hg : w66.grownBy w71 (some go56) := (by rw [hw]; exact HP70.2); have hp_ : Kd.R k62 62 w71 w.heap.size (fun _ => True) (.slice (some ⟨go56, 0, none⟩) x10_2.length co56) y221 := (by rw [hw, Ny221.out]; exact HP70.1); clear HP70; have n0_ := Aside0.mk (Kd.R_over' (v := (.slice (some ⟨go56, 0, none⟩) x10_2.length co56)) (by (with_reducible repeat (first | apply Kd.R_alloc | apply Kd.R_drewN | apply Kd.R_drew)); exact HO_9.out) (Kd.R_typed HO_10.out) (by decide) hg); have n1_ := Aside0.mk (hp_); have n2_ := Aside0.mk (Kd.R_over' (v := (.slice (some ⟨go56, 0, none⟩) x10_2.length co56)) (by (with_reducible repeat (first | apply Kd.R_alloc | apply Kd.R_drewN | apply Kd.R_drew)); exact HO216.out) (Kd.R_typed HO_10.out) (by decide) hg); have n3_ := Aside0.mk (Kd.R_over' (v := (.slice (some ⟨go56, 0, none⟩) x10_2.length co56)) (by (with_reducible repeat (first | apply Kd.R_alloc | apply Kd.R_drewN | apply Kd.R_drew)); exact HO219.out) (Kd.R_typed HO_10.out) (by decide) hg); have n4_ := Aside0.mk (blk_grown (g := gb191) (o := .cells #[.int .u64 0, .slice none 0 0] 27 (0, 0)) (by (with_reducible repeat (first | refine blk_drewN ?_ _ | refine blk_drew ?_ | refine blk_alloc ?_ _)); exact BK191.out) hg (Kd.R_ne HO_10.out BK191.out (by decide))); have n5_ := Aside0.mk ((by rw [hw]; exact below_set (below_set (HB.out) GB56.out) GB56.out : Below w.heap.size w w71)); clear HO_9; clear HO_10; clear HO216; clear HO219; clear BK191; clear HB; have HO_9 := n0_; have HO_10 := n1_; have HO216 := n2_; have HO219 := n3_; have BK191 := n4_; have HB := n5_; clear n0_ n1_ n2_ n3_ n4_ n5_; clear hg hw hp_))
                             have n0_ := Aside0.mk (Kd.R_drew HO_9.out)
                             have n1_ := Aside0.mk (Kd.R_drew HO_10.out)
                             have n2_ := Aside0.mk (Kd.R_drew HO216.out)
                             have n3_ := Aside0.mk (Kd.R_drew HO219.out)
                             have n4_ := Aside0.mk (blk_drew BK191.out)
                             have n5_ := Aside0.mk (below_drew1 HB.out)
                             clear HO_9
                             clear HO_10
                             clear HO216
                             clear HO219
                             clear BK191
                             clear HB
                             have HO_9 := n0_
                             have HO_10 := n1_
                             have HO216 := n2_
                             have HO219 := n3_
                             have BK191 := n4_
                             have HB := n5_
                             clear n0_ n1_ n2_ n3_ n4_ n5_
                             have p222 : 0 ≤ ((rd x12_2 (ji48)) : Int) := of_decide_eq_true (by first | (with_reducible assumption) | assumption)
                             have q222 : (rd x12_2 (ji48)) < (x9_2.length : Int) := of_decide_eq_true (by first | (with_reducible assumption) | assumption)
                             obtain ⟨ad222, e222, hx222_0⟩ := Kd.at_int (Kd.R_reads' HO_9.out).2.2 (rd x12_2 (ji48)) p222 q222
                             obtain rfl : ad220 = ad222 := (by injection e222)
                             replace p222 := eq_true p222
                             replace q222 := eq_true q222
                             have p223 : 0 ≤ ((rd x11_2 (ji45)) : Int) := of_decide_eq_true (by first | (with_reducible assumption) | assumption)
                             have q223 : (rd x11_2 (ji45)) < (x9_2.length : Int) := of_decide_eq_true (by first | (with_reducible assumption) | assumption)
                             obtain ⟨ad223, e223, hx223_0⟩ := Kd.at_int (Kd.R_reads' HO_9.out).2.2 (rd x11_2 (ji45)) p223 q223
                             obtain rfl : ad220 = ad223 := (by injection e223)
                             replace p223 := eq_true p223
                             replace q223 := eq_true q223
                             have p59 : 0 ≤ ((rd x12_2 (ji48)) : Int) := of_decide_eq_true (by first | (with_reducible assumption) | assumption)
                             have q59 : ((rd x12_2 (ji48)) : Int) < ((x9_2.length : Int) : Int) := of_decide_eq_true (by first | (with_reducible assumption) | assumption)
                             obtain ⟨go59, co59, eo59, gb59, gl59, cl59, HG59⟩ := Kd.R_form HO_9.out (by omega)
                             (first | cases eo59 | (injection eo59 with ea_ en_ ec_; (first | subst ea_ | (injection ea_ with ea_; subst ea_)); subst ec_; clear en_))
                             have GB59 := Aside0.mk gb59
                             have GG59 := Aside0.mk HG59
                             clear gb59 gl59 HG59
                             (first | simp only [add_plain] at hx220_0 | skip)
                             (first | simp only [add_plain] at hx222_0 | skip)
                             (first | simp only [add_plain] at hx223_0 | skip)
                             obtain ⟨hx59_0, hf59_0⟩ := Kd.R_celln 0 HO_9.out ((rd x12_2 (ji48)) : Int) p59 q59
                             replace p59 := eq_true p59
                             replace q59 := eq_true q59
                             have HP73 := Kd.R_putn HO_9.out ((rd x12_2 (ji48)) : Int) (IntKind.u64.wrap ((rd x9_2 (rd x12_2 (ji48))) - (IntKind.u64.wrap (t192 - (rd x9_2 (rd x11_2 (ji45)))))))
                             rw [← Ny224.out] at HP73
                             have HQ73 := Aside0.mk HP73
                             clear HP73
                             refine start_ (n := 15) (S := fun w' => w'.cell? ⟨go59, ((rd x12_2 (ji48))).toNat, none⟩ = some (.int .u64 (rd x9_2 (rd x12_2 (ji48)))) ∧ w'.cell? ⟨go59, ((rd x11_2 (ji45))).toNat, none⟩ = some (.int .u64 (rd x9_2 (rd x11_2 (ji45))))) (ds := [14]) #[false, false, false, false, false, false, false, false, false, false, false, false, false, false, false] (by kernel_rfl) rfl rfl ⟨hx222_0, hx223_0⟩ (fun hHeld => ?_); refine with_tabW drawlotref14_Build.tab27 drawlotref14_Build.bits27 (fun HT_ HW_ => ?_)
                             generalize w71.drew = w72 at HO_9 HO_10 HO216 HO219 BK191 HB GG59 HQ73 hf59_0 hx220_0 hx222_0 hx223_0 hx59_0 hHeld ⊢
                             refine pure_ (i := 0) (N := some 123) (v := ?_) (a' := ?_) #[true, false, false, false, false, false, false, false, false, false, false, false, false, false, false] rfl rfl (any_of HT_.out (by kernel_rfl)) (fun _ _ _ h => h) (Or.inl ⟨by rfl, ?_⟩) ?_ ?_
                             rotate_left
                             ·intro w'
                              go_simp
                              with_reducible rfl
                             rotate_left
                             ·simp only [Act.put, List.setIfInBounds_toArray, List.set_cons_zero, List.set_cons_succ, i64_w, i32_w]
                              rfl
                             refine pure_ (i := 1) (N := some 124) (v := ?_) (a' := ?_) #[true, true, false, false, false, false, false, false, false, false, false, false, false, false, false] rfl rfl (any_of HT_.out (by kernel_rfl)) (fun _ _ _ h => h) (Or.inl ⟨by rfl, ?_⟩) ?_ ?_
                             rotate_left
                             ·intro w'
                              go_simp
                              with_reducible rfl
                             rotate_left
                             ·simp only [Act.put, List.setIfInBounds_toArray, List.set_cons_zero, List.set_cons_succ, i64_w, i32_w]
                              rfl
                             refine pure_ (i := 2) (N := some 125) (v := ?_) (a' := ?_) #[true, true, true, false, false, false, false, false, false, false, false, false, false, false, false] rfl rfl (any_of HT_.out (by kernel_rfl)) (fun _ _ _ h => h) (Or.inl ⟨by rfl, ?_⟩) ?_ ?_
                             rotate_left
                             ·intro w'
                              go_simp
                              with_reducible rfl
                             rotate_left
                             ·simp only [Act.put, List.setIfInBounds_toArray, List.set_cons_zero, List.set_cons_succ, i64_w, i32_w]
                              rfl
                             refine pure_ (i := 3) (N := some 126) (v := ?_) (a' := ?_) #[true, true, true, true, false, false, false, false, false, false, false, false, false, false, false] rfl rfl (any_of HT_.out (by kernel_rfl)) (fun _ _ _ h => h) (Or.inl ⟨by rfl, ?_⟩) ?_ ?_
                             rotate_left
                             ·intro w'
                              go_simp
                              with_reducible rfl
                             rotate_left
                             ·simp only [Act.put, List.setIfInBounds_toArray, List.set_cons_zero, List.set_cons_succ, i64_w, i32_w]
                              rfl
                             refine pure_ (i := 4) (N := some 127) (v := ?_) (a' := ?_) #[true, true, true, true, true, false, false, false, false, false, false, false, false, false, false] rfl rfl (any_of HT_.out (by kernel_rfl)) (fun _ _ _ h => h) (Or.inl ⟨by rfl, ?_⟩) ?_ ?_
                             rotate_left
                             ·intro w'
                              go_simp
                              with_reducible rfl
                             rotate_left
                             ·simp only [Act.put, List.setIfInBounds_toArray, List.set_cons_zero, List.set_cons_succ, i64_w, i32_w]
                              rfl
                             refine pure_ (i := 6) (N := some 129) (v := ?_) (a' := ?_) #[true, true, true, true, true, false, true, false, false, false, false, false, false, false, false] rfl rfl (any_of HT_.out (by kernel_rfl)) (fun _ _ _ h => h) (Or.inl ⟨by rfl, ?_⟩) ?_ ?_
                             rotate_left
                             ·intro w'
                              go_simp
                              with_reducible rfl
                             rotate_left
                             ·simp only [Act.put, List.setIfInBounds_toArray, List.set_cons_zero, List.set_cons_succ, i64_w, i32_w]
                              rfl
                             refine pure_ (i := 7) (N := some 130) (v := ?_) (a' := ?_) #[true, true, true, true, true, false, true, true, false, false, false, false, false, false, false] rfl rfl (any_of HT_.out (by kernel_rfl)) (fun _ _ _ h => h) (Or.inl ⟨by rfl, ?_⟩) ?_ ?_
                             rotate_left
                             ·intro w'
                              go_simp
                              with_reducible rfl
                             rotate_left
                             ·simp only [Act.put, List.setIfInBounds_toArray, List.set_cons_zero, List.set_cons_succ, i64_w, i32_w]
                              rfl
                             refine pure_ (i := 8) (N := some 131) (v := ?_) (a' := ?_) #[true, true, true, true, true, false, true, true, true, false, false, false, false, false, false] rfl rfl (any_of HT_.out (by kernel_rfl)) (fun _ _ _ h => h) (Or.inl ⟨by rfl, ?_⟩) ?_ ?_
                             rotate_left
                             ·intro w'
                              go_simp
                              with_reducible rfl
                             rotate_left
                             ·simp only [Act.put, List.setIfInBounds_toArray, List.set_cons_zero, List.set_cons_succ, i64_w, i32_w]
                              rfl
                             refine pure_ (i := 9) (N := some 132) (v := ?_) (a' := ?_) #[true, true, true, true, true, false, true, true, true, true, false, false, false, false, false] rfl rfl (any_of HT_.out (by kernel_rfl)) (fun _ _ _ h => h) (Or.inl ⟨by rfl, ?_⟩) ?_ ?_
                             rotate_left
                             ·intro w'
                              go_simp
                              with_reducible rfl
                             rotate_left
                             ·simp only [Act.put, List.setIfInBounds_toArray, List.set_cons_zero, List.set_cons_succ, i64_w, i32_w]
                              rfl
                             refine take_ (i := 5) (N := some 128) (v := ?_) (a' := ?_) #[true, true, true, true, true, true, true, true, true, true, false, false, false, false, false] rfl rfl (take_ofW HT_.out HW_.out (by kernel_rfl)) (fun _ _ _ h => h) (Or.inl ⟨by rfl, ?_⟩) hHeld ?_ ?_
                             rotate_left
                             ·rintro w' ⟨s0, s1⟩
                              go_simp
                              with_reducible rfl
                             rotate_left
                             ·simp only [Act.put, List.setIfInBounds_toArray, List.set_cons_zero, List.set_cons_succ, i64_w, i32_w]
                              rfl
                             refine take_ (i := 10) (N := some 133) (v := ?_) (a' := ?_) #[true, true, true, true, true, true, true, true, true, true, true, false, false, false, false] rfl rfl (take_ofW HT_.out HW_.out (by kernel_rfl)) (fun _ _ _ h => h) (Or.inl ⟨by rfl, ?_⟩) hHeld ?_ ?_
                             rotate_left
                             ·rintro w' ⟨s0, s1⟩
                              go_simp
                              with_reducible rfl
                             rotate_left
                             ·simp only [Act.put, List.setIfInBounds_toArray, List.set_cons_zero, List.set_cons_succ, i64_w, i32_w]
                              rfl
                             refine pure_ (i := 11) (N := some 134) (v := ?_) (a' := ?_) #[true, true, true, true, true, true, true, true, true, true, true, true, false, false, false] rfl rfl (any_of HT_.out (by kernel_rfl)) (fun _ _ _ h => h) (Or.inl ⟨by rfl, ?_⟩) ?_ ?_
                             rotate_left
                             ·intro w'
                              go_simp
                              with_reducible rfl
                             rotate_left
                             ·simp only [Act.put, List.setIfInBounds_toArray, List.set_cons_zero, List.set_cons_succ, i64_w, i32_w]
                              rfl
                             refine pure_ (i := 12) (N := some 135) (v := ?_) (a' := ?_) #[true, true, true, true, true, true, true, true, true, true, true, true, true, false, false] rfl rfl (any_of HT_.out (by kernel_rfl)) (fun _ _ _ h => h) (Or.inl ⟨by rfl, ?_⟩) ?_ ?_
                             rotate_left
                             ·intro w'
                              go_simp
                              with_reducible rfl
                             rotate_left
                             ·simp only [Act.put, List.setIfInBounds_toArray, List.set_cons_zero, List.set_cons_succ, i64_w, i32_w]
                              rfl
                             refine pure_ (i := 13) (N := some 136) (v := ?_) (a' := ?_) #[true, true, true, true, true, true, true, true, true, true, true, true, true, true, false] rfl rfl (any_of HT_.out (by kernel_rfl)) (fun _ _ _ h => h) (Or.inl ⟨by rfl, ?_⟩) ?_ ?_
                             rotate_left
                             ·intro w'
                              go_simp
                              with_reducible rfl
                             rotate_left
                             ·simp only [Act.put, List.setIfInBounds_toArray, List.set_cons_zero, List.set_cons_succ, i64_w, i32_w]
                              rfl
                             refine last_ (i := 14) (N := none) #[true, true, true, true, true, true, true, true, true, true, true, true, true, true, true] rfl rfl (one_of HT_.out (by kernel_rfl)) (by decide) (fun K hK => ?_)
                             refine skip_ (w1 := ?_) (by rfl) rfl ?_ ?_
                             rotate_left
                             ·go_simp
                              rfl
                             refine hK.out _ _ ?_
                             clear hK K
                             refine done_ (done_of HT_.out (by kernel_rfl)) ?_
                             have p60 : 0 ≤ ((rd x12_2 (ji48)) : Int) := of_decide_eq_true (by first | (with_reducible assumption) | assumption)
                             have q60 : ((rd x12_2 (ji48)) : Int) < ((x9_2.length : Int) : Int) := of_decide_eq_true (by first | (with_reducible assumption) | assumption)
                             replace p60 := eq_true p60
                             replace q60 := eq_true q60
                             try go_wp2_with (first | ((with_reducible refine gate_builtin (b := .append) (xs := #[.tmp 143, .tmp 145]) rfl ?_); (try (refine gate_guard (by rfl) ?_; dsimp only)); at_builtin; refine Kd.R_append (Kd.int .i64) (w0 := w) w.heap.size rfl (.tmp 143) (.tmp 145) 65 3 (.int .i64 0) 8 rfl Try.underlying65 info3 rfl (by decide) (by omega) (.slice (some ad212) y214.length co64) y214 (rd x12_2 (ji48)) [.int .i64 (rd x12_2 (ji48))] (fun k_ => some k_ ≠ (.slice (some ad213) y217.length co65 : Value).ownBlock) (fun _ => False) rfl (by first | (go_simp; done) | (go_simp; rfl)) ?aP (fun _ hk => hk.elim) ?aF ?aO ?aB ?aS ?aL ?_; (case aP => exact rfl); (case aB => exact (by repeat (first | (with_reducible first | exact HB.out | apply below_alloc | apply pw_below_drewN | apply below_drew1 | refine below_set ?_ GB59.out | refine below_set ?_ GE191.out) | exact HB.out))); (case aF => exact (fun k_ hk => Kd.fresh' (Kd.R_lt (by (with_reducible repeat (first | apply Kd.R_alloc | apply Kd.R_drewN | apply Kd.R_drew)); exact (Kd.R_mono (Kd.R_far (p := ⟨go59, ((rd x12_2 (ji48)) : Int).toNat, none⟩) (Kd.R_types HO219.out GG59.out (by decide)) (fun _ hk => hk.2) (.int .u64 (IntKind.u64.wrap ((rd x9_2 (rd x12_2 (ji48))) - (IntKind.u64.wrap (t192 - (rd x9_2 (rd x11_2 (ji45))))))))) (fun _ h_ => h_.1)))) k_ hk)); (case aO => exact (by (with_reducible repeat (first | apply Kd.R_alloc | apply Kd.R_drewN | apply Kd.R_drew)); exact Kd.R_mono (Kd.R_far (p := ⟨go59, ((rd x12_2 (ji48)) : Int).toNat, none⟩) (Kd.R_types HO216.out GG59.out (by decide)) (fun _ hk => hk.2) (.int .u64 (IntKind.u64.wrap ((rd x9_2 (rd x12_2 (ji48))) - (IntKind.u64.wrap (t192 - (rd x9_2 (rd x11_2 (ji45))))))))) (fun _ hk => hk.1))); (case aS => exact (below_size (by repeat (first | (with_reducible first | exact HB.out | apply below_alloc | apply pw_below_drewN | apply below_drew1 | refine below_set ?_ GB59.out | refine below_set ?_ GE191.out) | exact HB.out)))); (case aL => have := LMc62.out; omega); intro v227 w74 ho hb hg hat; rw [← Ny226.out] at ho; have n0_ := Aside0.mk (Kd.R_over' (by (with_reducible repeat (first | apply Kd.R_alloc | apply Kd.R_drewN | apply Kd.R_drew)); exact HQ73.out) (Kd.R_typed (by (with_reducible repeat (first | apply Kd.R_alloc | apply Kd.R_drewN | apply Kd.R_drew)); exact (Kd.R_mono (Kd.R_far (p := ⟨go59, ((rd x12_2 (ji48)) : Int).toNat, none⟩) (Kd.R_types HO216.out GG59.out (by decide)) (fun _ hk => hk.2) (.int .u64 (IntKind.u64.wrap ((rd x9_2 (rd x12_2 (ji48))) - (IntKind.u64.wrap (t192 - (rd x9_2 (rd x11_2 (ji45))))))))) (fun _ h_ => h_.1)))) (by decide) hg); have n1_ := Aside0.mk (Kd.R_over' (by (with_reducible repeat (first | apply Kd.R_alloc | apply Kd.R_drewN | apply Kd.R_drew)); exact (Kd.R_mono (Kd.R_far (p := ⟨go59, ((rd x12_2 (ji48)) : Int).toNat, none⟩) (Kd.R_types HO_10.out GG59.out (by decide)) (fun _ hk => hk.2) (.int .u64 (IntKind.u64.wrap ((rd x9_2 (rd x12_2 (ji48))) - (IntKind.u64.wrap (t192 - (rd x9_2 (rd x11_2 (ji45))))))))) (fun _ h_ => h_.1))) (Kd.R_typed (by (with_reducible repeat (first | apply Kd.R_alloc | apply Kd.R_drewN | apply Kd.R_drew)); exact (Kd.R_mono (Kd.R_far (p := ⟨go59, ((rd x12_2 (ji48)) : Int).toNat, none⟩) (Kd.R_types HO216.out GG59.out (by decide)) (fun _ hk => hk.2) (.int .u64 (IntKind.u64.wrap ((rd x9_2 (rd x12_2 (ji48))) - (IntKind.u64.wrap (t192 - (rd x9_2 (rd x11_2 (ji45))))))))) (fun _ h_ => h_.1)))) (by decide) hg); have n2_ := Aside0.mk (Kd.R_after (ok := (fun _ => True)) (by (with_reducible repeat (first | apply Kd.R_alloc | apply Kd.R_drewN | apply Kd.R_drew)); exact Kd.R_mono (Kd.R_far (p := ⟨go59, ((rd x12_2 (ji48)) : Int).toNat, none⟩) (Kd.R_types HO219.out GG59.out (by decide)) (fun _ hk => hk.2) (.int .u64 (IntKind.u64.wrap ((rd x9_2 (rd x12_2 (ji48))) - (IntKind.u64.wrap (t192 - (rd x9_2 (rd x11_2 (ji45))))))))) (fun _ hk => ⟨trivial, hk.1⟩)) hg hat); have n3_ := Aside0.mk (blk_grown (g := gb191) (o := .cells #[.int .u64 0, .slice none 0 0] 27 (0, 0)) (by (with_reducible repeat (first | refine blk_drewN ?_ _ | refine blk_drew ?_ | refine blk_alloc ?_ _)); refine blk_far ?_ (by have h_ := Kd.R_ne HO_9.out BK191.out (by decide); intro e_; exact h_ (by rw [e_]; rfl)) _; (with_reducible repeat (first | refine blk_drewN ?_ _ | refine blk_drew ?_ | refine blk_alloc ?_ _)); exact BK191.out) hg (Kd.R_ne HO216.out BK191.out (by decide))); have n4_ := Aside0.mk (hb); have n5_ := Aside0.mk (ho); clear HO_9; clear HO_10; clear HO219; clear BK191; clear HB; clear HO216; have HO_9 := n0_; have HO_10 := n1_; have HO219 := n2_; have BK191 := n3_; have HB := n4_; have HO228 := n5_; clear n0_ n1_ n2_ n3_ n4_ n5_; clear ho hb hg hat))
                             go_roundg kj38
                             case measure => have := HK1.out; have := HK2.out; have := HJ38.out; omega
                             case rel => exact ⟨(y224), (y221), (y226), (y217), H', ⟨by have := HK1.out; have := HK2.out; have := HJ38.out; omega⟩, ⟨by (with_reducible repeat (first | apply Kd.R_alloc | apply Kd.R_drewN | apply Kd.R_drew)); exact HO_9.out⟩, ⟨by (with_reducible repeat (first | apply Kd.R_alloc | apply Kd.R_drewN | apply Kd.R_drew)); exact HO_10.out⟩, ⟨by (with_reducible repeat (first | apply Kd.R_alloc | apply Kd.R_drewN | apply Kd.R_drew)); exact HO228.out⟩, ⟨by (with_reducible repeat (first | apply Kd.R_alloc | apply Kd.R_drewN | apply Kd.R_drew)); exact Kd.R_mono HO219.out (fun _ hk => hk.2)⟩, ⟨by (with_reducible repeat (first | refine blk_drewN ?_ _ | refine blk_drew ?_ | refine blk_alloc ?_ _)); exact BK191.out⟩, ⟨by repeat (first | (with_reducible first | exact HB.out | apply below_alloc | apply pw_below_drewN | apply below_drew1 | refine below_set ?_ GE191.out) | exact HB.out)⟩⟩
                            ·rw [if_neg c62] at H
                             exact absurd H (by simp)
                           ·rw [if_neg c61] at H
                            have c61b0 : decide ((IntKind.u64.wrap ((rd x9_2 (rd x12_2 (ji48))) - (IntKind.u64.wrap (t192 - (rd x9_2 (rd x11_2 (ji45))))))) < t192) = false := decide_eq_false c61
                            clear c61
                            by_cases c75 : y217.length < 17592186044416
                            ·rw [if_pos c75] at H
                             have LMc75 := Aside0.mk c75
                             clear c75
                             obtain ⟨y229, hy229⟩ : ∃ y_ : List Int, y_ = (y217 ++ [rd x12_2 (ji48)]) := ⟨_, rfl⟩
                             replace H : (drawlotref14_Build.l1 kj38 t192 y224 y221 y214 y229) = some (r1, r2, r3) := by first | (rw [hy229]; with_reducible exact H) | (have H2_ := (Option.bind_some _ _).symm.trans H; rw [hy229]; with_reducible exact H2_) | (have H2_ := (Option.bind_some _ _).symm.trans H; with_reducible exact H2_) | with_reducible exact H | (rw [hy229]; exact H) | exact H
                             have Ny229 := Aside0.mk hy229
                             clear hy229
                             have H' := Aside0.mk H
                             clear H
                             try go_wp2
                             have n0_ := Aside0.mk (Kd.R_drew HO_9.out)
                             have n1_ := Aside0.mk (Kd.R_drew HO_10.out)
                             have n2_ := Aside0.mk (Kd.R_drew HO_11.out)
                             have n3_ := Aside0.mk (Kd.R_drew HO_12.out)
                             have n4_ := Aside0.mk (blk_drew BK191.out)
                             have n5_ := Aside0.mk (below_drew1 HB.out)
                             clear HO_9
                             clear HO_10
                             clear HO_11
                             clear HO_12
                             clear BK191
                             clear HB
                             have HO_9 := n0_
                             have HO_10 := n1_
                             have HO_11 := n2_
                             have HO_12 := n3_
                             have BK191 := n4_
                             have HB := n5_
                             clear n0_ n1_ n2_ n3_ n4_ n5_
                             obtain ⟨Ao77, co77, eo77⟩ := Kd.R_slice HO_11.out
                             (first | subst eo77 | (injection eo77 with f1_ f2_ f3_; have f4_ := f1_.symm; have f5_ := f3_.symm; clear f1_ f2_ f3_; subst f4_; subst f5_))
                             have p212 : 0 ≤ ((ji45) : Int) := of_decide_eq_true (by first | (with_reducible assumption) | assumption)
                             have q212 : (ji45) < (x11_2.length : Int) := of_decide_eq_true (by first | (with_reducible assumption) | assumption)
                             obtain ⟨ad212, e212, hx212_0⟩ := Kd.at_int (Kd.R_reads' HO_11.out).2.2 (ji45) p212 q212
                             cases e212
                             replace p212 := eq_true p212
                             replace q212 := eq_true q212
                             obtain ⟨Ao78, co78, eo78⟩ := Kd.R_slice HO_12.out
                             (first | subst eo78 | (injection eo78 with f1_ f2_ f3_; have f4_ := f1_.symm; have f5_ := f3_.symm; clear f1_ f2_ f3_; subst f4_; subst f5_))
                             have p213 : 0 ≤ ((ji48) : Int) := of_decide_eq_true (by first | (with_reducible assumption) | assumption)
                             have q213 : (ji48) < (x12_2.length : Int) := of_decide_eq_true (by first | (with_reducible assumption) | assumption)
                             obtain ⟨ad213, e213, hx213_0⟩ := Kd.at_int (Kd.R_reads' HO_12.out).2.2 (ji48) p213 q213
                             cases e213
                             replace p213 := eq_true p213
                             replace q213 := eq_true q213
                             refine start_ (n := 14) (S := fun w' => w'.cell? (ad212.add ((ji45)).toNat) = some (.int .i64 (rd x11_2 (ji45))) ∧ w'.cell? (ad213.add ((ji48)).toNat) = some (.int .i64 (rd x12_2 (ji48)))) (ds := []) #[false, false, false, false, false, false, false, false, false, false, false, false, false, false] (by kernel_rfl) rfl rfl ⟨hx212_0, hx213_0⟩ (fun hHeld => ?_); refine with_tabW drawlotref14_Build.tab24 drawlotref14_Build.bits24 (fun HT_ HW_ => ?_)
                             generalize wc.drew = w76 at HO_9 HO_10 HO_11 HO_12 BK191 HB hx212_0 hx213_0 hHeld ⊢
                             refine pure_ (i := 0) (N := some 92) (v := ?_) (a' := ?_) #[true, false, false, false, false, false, false, false, false, false, false, false, false, false] rfl rfl (any_of HT_.out (by kernel_rfl)) (fun _ _ _ h => h) (Or.inl ⟨by rfl, ?_⟩) ?_ ?_
                             rotate_left
                             ·intro w'
                              go_simp
                              with_reducible rfl
                             rotate_left
                             ·simp only [Act.put, List.setIfInBounds_toArray, List.set_cons_zero, List.set_cons_succ, i64_w, i32_w]
                              rfl
                             refine pure_ (i := 1) (N := some 93) (v := ?_) (a' := ?_) #[true, true, false, false, false, false, false, false, false, false, false, false, false, false] rfl rfl (any_of HT_.out (by kernel_rfl)) (fun _ _ _ h => h) (Or.inl ⟨by rfl, ?_⟩) ?_ ?_
                             rotate_left
                             ·intro w'
                              go_simp
                              with_reducible rfl
                             rotate_left
                             ·simp only [Act.put, List.setIfInBounds_toArray, List.set_cons_zero, List.set_cons_succ, i64_w, i32_w]
                              rfl
                             refine pure_ (i := 2) (N := some 94) (v := ?_) (a' := ?_) #[true, true, true, false, false, false, false, false, false, false, false, false, false, false] rfl rfl (any_of HT_.out (by kernel_rfl)) (fun _ _ _ h => h) (Or.inl ⟨by rfl, ?_⟩) ?_ ?_
                             rotate_left
                             ·intro w'
                              go_simp
                              with_reducible rfl
                             rotate_left
                             ·simp only [Act.put, List.setIfInBounds_toArray, List.set_cons_zero, List.set_cons_succ, i64_w, i32_w]
                              rfl
                             refine pure_ (i := 3) (N := some 95) (v := ?_) (a' := ?_) #[true, true, true, true, false, false, false, false, false, false, false, false, false, false] rfl rfl (any_of HT_.out (by kernel_rfl)) (fun _ _ _ h => h) (Or.inl ⟨by rfl, ?_⟩) ?_ ?_
                             rotate_left
                             ·intro w'
                              go_simp
                              with_reducible rfl
                             rotate_left
                             ·simp only [Act.put, List.setIfInBounds_toArray, List.set_cons_zero, List.set_cons_succ, i64_w, i32_w]
                              rfl
                             refine pure_ (i := 4) (N := some 96) (v := ?_) (a' := ?_) #[true, true, true, true, true, false, false, false, false, false, false, false, false, false] rfl rfl (any_of HT_.out (by kernel_rfl)) (fun _ _ _ h => h) (Or.inl ⟨by rfl, ?_⟩) ?_ ?_
                             rotate_left
                             ·intro w'
                              go_simp
                              with_reducible rfl
                             rotate_left
                             ·simp only [Act.put, List.setIfInBounds_toArray, List.set_cons_zero, List.set_cons_succ, i64_w, i32_w]
                              rfl
                             refine pure_ (i := 6) (N := some 98) (v := ?_) (a' := ?_) #[true, true, true, true, true, false, true, false, false, false, false, false, false, false] rfl rfl (any_of HT_.out (by kernel_rfl)) (fun _ _ _ h => h) (Or.inl ⟨by rfl, ?_⟩) ?_ ?_
                             rotate_left
                             ·intro w'
                              go_simp
                              with_reducible rfl
                             rotate_left
                             ·simp only [Act.put, List.setIfInBounds_toArray, List.set_cons_zero, List.set_cons_succ, i64_w, i32_w]
                              rfl
                             refine pure_ (i := 7) (N := some 99) (v := ?_) (a' := ?_) #[true, true, true, true, true, false, true, true, false, false, false, false, false, false] rfl rfl (any_of HT_.out (by kernel_rfl)) (fun _ _ _ h => h) (Or.inl ⟨by rfl, ?_⟩) ?_ ?_
                             rotate_left
                             ·intro w'
                              go_simp
                              with_reducible rfl
                             rotate_left
                             ·simp only [Act.put, List.setIfInBounds_toArray, List.set_cons_zero, List.set_cons_succ, i64_w, i32_w]
                              rfl
                             refine pure_ (i := 8) (N := some 100) (v := ?_) (a' := ?_) #[true, true, true, true, true, false, true, true, true, false, false, false, false, false] rfl rfl (any_of HT_.out (by kernel_rfl)) (fun _ _ _ h => h) (Or.inl ⟨by rfl, ?_⟩) ?_ ?_
                             rotate_left
                             ·intro w'
                              go_simp
                              with_reducible rfl
                             rotate_left
                             ·simp only [Act.put, List.setIfInBounds_toArray, List.set_cons_zero, List.set_cons_succ, i64_w, i32_w]
                              rfl
                             refine pure_ (i := 9) (N := some 101) (v := ?_) (a' := ?_) #[true, true, true, true, true, false, true, true, true, true, false, false, false, false] rfl rfl (any_of HT_.out (by kernel_rfl)) (fun _ _ _ h => h) (Or.inl ⟨by rfl, ?_⟩) ?_ ?_
                             rotate_left
                             ·intro w'
                              go_simp
                              with_reducible rfl
                             rotate_left
                             ·simp only [Act.put, List.setIfInBounds_toArray, List.set_cons_zero, List.set_cons_succ, i64_w, i32_w]
                              rfl
                             refine pure_ (i := 10) (N := some 102) (v := ?_) (a' := ?_) #[true, true, true, true, true, false, true, true, true, true, true, false, false, false] rfl rfl (any_of HT_.out (by kernel_rfl)) (fun _ _ _ h => h) (Or.inl ⟨by rfl, ?_⟩) ?_ ?_
                             rotate_left
                             ·intro w'
                              go_simp
                              with_reducible rfl
                             rotate_left
                             ·simp only [Act.put, List.setIfInBounds_toArray, List.set_cons_zero, List.set_cons_succ, i64_w, i32_w]
                              rfl
                             refine take_ (i := 5) (N := some 97) (v := ?_) (a' := ?_) #[true, true, true, true, true, true, true, true, true, true, true, false, false, false] rfl rfl (take_ofW HT_.out HW_.out (by kernel_rfl)) (fun _ _ _ h => h) (Or.inl ⟨by rfl, ?_⟩) hHeld ?_ ?_
                             rotate_left
                             ·rintro w' ⟨s0, s1⟩
                              go_simp
                              with_reducible rfl
                             rotate_left
                             ·simp only [Act.put, List.setIfInBounds_toArray, List.set_cons_zero, List.set_cons_succ, i64_w, i32_w]
                              rfl
                             refine pure_ (i := 12) (N := some 14) (v := ?_) (a' := ?_) #[true, true, true, true, true, true, true, true, true, true, true, false, true, false] rfl rfl (any_of HT_.out (by kernel_rfl)) (fun _ _ _ h => h) (Or.inl ⟨by rfl, ?_⟩) ?_ ?_
                             rotate_left
                             ·intro w'
                              go_simp
                              with_reducible rfl
                             rotate_left
                             ·simp only [Act.put, List.setIfInBounds_toArray, List.set_cons_zero, List.set_cons_succ, i64_w, i32_w]
                              rfl
                             refine take_ (i := 11) (N := some 103) (v := ?_) (a' := ?_) #[true, true, true, true, true, true, true, true, true, true, true, true, true, false] rfl rfl (take_ofW HT_.out HW_.out (by kernel_rfl)) (fun _ _ _ h => h) (Or.inl ⟨by rfl, ?_⟩) hHeld ?_ ?_
                             rotate_left
                             ·rintro w' ⟨s0, s1⟩
                              go_simp
                              with_reducible rfl
                             rotate_left
                             ·simp only [Act.put, List.setIfInBounds_toArray, List.set_cons_zero, List.set_cons_succ, i64_w, i32_w]
                              rfl
                             refine pure_ (i := 13) (N := some 15) (v := ?_) (a' := ?_) #[true, true, true, true, true, true, true, true, true, true, true, true, true, true] rfl rfl (any_of HT_.out (by kernel_rfl)) (fun _ _ _ h => h) (Or.inl ⟨by rfl, ?_⟩) ?_ ?_
                             rotate_left
                             ·intro w'
                              go_simp
                              with_reducible rfl
                             rotate_left
                             ·simp only [Act.put, List.setIfInBounds_toArray, List.set_cons_zero, List.set_cons_succ, i64_w, i32_w]
                              rfl
                             refine done_ (done_of HT_.out (by kernel_rfl)) ?_
                             try go_wp2
                             have n0_ := Aside0.mk (Kd.R_drew HO_9.out)
                             have n1_ := Aside0.mk (Kd.R_drew HO_10.out)
                             have n2_ := Aside0.mk (Kd.R_drew HO_11.out)
                             have n3_ := Aside0.mk (Kd.R_drew HO_12.out)
                             have n4_ := Aside0.mk (blk_drew BK191.out)
                             have n5_ := Aside0.mk (below_drew1 HB.out)
                             clear HO_9
                             clear HO_10
                             clear HO_11
                             clear HO_12
                             clear BK191
                             clear HB
                             have HO_9 := n0_
                             have HO_10 := n1_
                             have HO_11 := n2_
                             have HO_12 := n3_
                             have BK191 := n4_
                             have HB := n5_
                             clear n0_ n1_ n2_ n3_ n4_ n5_
                             have q80 : ((ji45) : Int) ≤ ((x11_2.length : Int) : Int) := of_decide_eq_true (by first | (with_reducible assumption) | assumption)
                             obtain ⟨i080, hi080, _, hsz80, _⟩ := info_parts info3
                             have hcut80 := cut_to (P := Try.prog) 65 3 .i64 Try.underlying65 hi080 (some ad212) x11_2.length co77 (ji45) (of_decide_eq_true (by first | (with_reducible assumption) | assumption)) q80 (Kd.R_reads' HO_11.out).2.1
                             have hr80 := Kd.R_take (m := ((ji45) : Int).toNat) HO_11.out (by omega)
                             have hy80 : y214.length = ((ji45) : Int).toNat := (by rw [Ny214.out, List.length_take]; omega)
                             rw [← Ny214.out] at hr80
                             rw [← hy80] at hr80 hcut80
                             clear hy80 hi080 hsz80 HO_11
                             have HO216 := Aside0.mk hr80
                             clear hr80
                             replace q80 := eq_true q80
                             have q81 : ((ji48) : Int) ≤ ((x12_2.length : Int) : Int) := of_decide_eq_true (by first | (with_reducible assumption) | assumption)
                             obtain ⟨i081, hi081, _, hsz81, _⟩ := info_parts info3
                             have hcut81 := cut_to (P := Try.prog) 65 3 .i64 Try.underlying65 hi081 (some ad213) x12_2.length co78 (ji48) (of_decide_eq_true (by first | (with_reducible assumption) | assumption)) q81 (Kd.R_reads' HO_12.out).2.1
                             have hr81 := Kd.R_take (m := ((ji48) : Int).toNat) HO_12.out (by omega)
                             have hy81 : y217.length = ((ji48) : Int).toNat := (by rw [Ny217.out, List.length_take]; omega)
                             rw [← Ny217.out] at hr81
                             rw [← hy81] at hr81 hcut81
                             clear hy81 hi081 hsz81 HO_12
                             have HO219 := Aside0.mk hr81
                             clear hr81
                             replace q81 := eq_true q81
                             refine start_ (n := 12) (S := fun w' => True) (ds := []) #[false, false, false, false, false, false, false, false, false, false, false, false] (by kernel_rfl) rfl rfl trivial (fun hHeld => ?_); refine with_tabW drawlotref14_Build.tab25 drawlotref14_Build.bits25 (fun HT_ HW_ => ?_)
                             generalize w76.drew = w79 at HO_9 HO_10 HO_11 HO_12 BK191 HB HO216 HO219 hHeld ⊢
                             refine pure_ (i := 0) (N := some 104) (v := ?_) (a' := ?_) #[true, false, false, false, false, false, false, false, false, false, false, false] rfl rfl (any_of HT_.out (by kernel_rfl)) (fun _ _ _ h => h) (Or.inl ⟨by rfl, ?_⟩) ?_ ?_
                             rotate_left
                             ·intro w'
                              go_simp
                              with_reducible rfl
                             rotate_left
                             ·simp only [Act.put, List.setIfInBounds_toArray, List.set_cons_zero, List.set_cons_succ, i64_w, i32_w]
                              rfl
                             refine pure_ (i := 1) (N := some 105) (v := ?_) (a' := ?_) #[true, true, false, false, false, false, false, false, false, false, false, false] rfl rfl (any_of HT_.out (by kernel_rfl)) (fun _ _ _ h => h) (Or.inl ⟨by rfl, ?_⟩) ?_ ?_
                             rotate_left
                             ·intro w'
                              go_simp
                              with_reducible rfl
                             rotate_left
                             ·simp only [Act.put, List.setIfInBounds_toArray, List.set_cons_zero, List.set_cons_succ, i64_w, i32_w]
                              rfl
                             refine pure_ (i := 2) (N := some 106) (v := ?_) (a' := ?_) #[true, true, true, false, false, false, false, false, false, false, false, false] rfl rfl (any_of HT_.out (by kernel_rfl)) (fun _ _ _ h => h) (Or.inl ⟨by rfl, ?_⟩) ?_ ?_
                             rotate_left
                             ·intro w'
                              go_simp
                              with_reducible rfl
                             rotate_left
                             ·simp only [Act.put, List.setIfInBounds_toArray, List.set_cons_zero, List.set_cons_succ, i64_w, i32_w]
                              rfl
                             refine pure_ (i := 3) (N := some 107) (v := ?_) (a' := ?_) #[true, true, true, true, false, false, false, false, false, false, false, false] rfl rfl (any_of HT_.out (by kernel_rfl)) (fun _ _ _ h => h) (Or.inl ⟨by rfl, ?_⟩) ?_ ?_
                             rotate_left
                             ·intro w'
                              go_simp
                              with_reducible rfl
                             rotate_left
                             ·simp only [Act.put, List.setIfInBounds_toArray, List.set_cons_zero, List.set_cons_succ, i64_w, i32_w]
                              rfl
                             refine pure_ (i := 4) (N := some 108) (v := ?_) (a' := ?_) #[true, true, true, true, true, false, false, false, false, false, false, false] rfl rfl (any_of HT_.out (by kernel_rfl)) (fun _ _ _ h => h) (Or.inl ⟨by rfl, ?_⟩) ?_ ?_
                             rotate_left
                             ·intro w'
                              go_simp
                              with_reducible rfl
                             rotate_left
                             ·simp only [Act.put, List.setIfInBounds_toArray, List.set_cons_zero, List.set_cons_succ, i64_w, i32_w]
                              rfl
                             refine pure_ (i := 5) (N := some 109) (v := ?_) (a' := ?_) #[true, true, true, true, true, true, false, false, false, false, false, false] rfl rfl (any_of HT_.out (by kernel_rfl)) (fun _ _ _ h => h) (Or.inl ⟨by rfl, ?_⟩) ?_ ?_
                             rotate_left
                             ·intro w'
                              go_simp
                              with_reducible rfl
                             rotate_left
                             ·simp only [Act.put, List.setIfInBounds_toArray, List.set_cons_zero, List.set_cons_succ, i64_w, i32_w]
                              rfl
                             refine pure_ (i := 6) (N := some 110) (v := ?_) (a' := ?_) #[true, true, true, true, true, true, true, false, false, false, false, false] rfl rfl (any_of HT_.out (by kernel_rfl)) (fun _ _ _ h => h) (Or.inl ⟨by rfl, ?_⟩) ?_ ?_
                             rotate_left
                             ·intro w'
                              go_simp
                              with_reducible rfl
                             rotate_left
                             ·simp only [Act.put, List.setIfInBounds_toArray, List.set_cons_zero, List.set_cons_succ, i64_w, i32_w]
                              rfl
                             refine pure_ (i := 7) (N := some 111) (v := ?_) (a' := ?_) #[true, true, true, true, true, true, true, true, false, false, false, false] rfl rfl (any_of HT_.out (by kernel_rfl)) (fun _ _ _ h => h) (Or.inl ⟨by rfl, ?_⟩) ?_ ?_
                             rotate_left
                             ·intro w'
                              go_simp
                              with_reducible rfl
                             rotate_left
                             ·simp only [Act.put, List.setIfInBounds_toArray, List.set_cons_zero, List.set_cons_succ, i64_w, i32_w]
                              rfl
                             refine pure_ (i := 8) (N := some 112) (v := ?_) (a' := ?_) #[true, true, true, true, true, true, true, true, true, false, false, false] rfl rfl (any_of HT_.out (by kernel_rfl)) (fun _ _ _ h => h) (Or.inl ⟨by rfl, ?_⟩) ?_ ?_
                             rotate_left
                             ·intro w'
                              go_simp
                              with_reducible rfl
                             rotate_left
                             ·simp only [Act.put, List.setIfInBounds_toArray, List.set_cons_zero, List.set_cons_succ, i64_w, i32_w]
                              rfl
                             refine pure_ (i := 9) (N := some 113) (v := ?_) (a' := ?_) #[true, true, true, true, true, true, true, true, true, true, false, false] rfl rfl (any_of HT_.out (by kernel_rfl)) (fun _ _ _ h => h) (Or.inl ⟨by rfl, ?_⟩) ?_ ?_
                             rotate_left
                             ·intro w'
                              go_simp
                              with_reducible rfl
                             rotate_left
                             ·simp only [Act.put, List.setIfInBounds_toArray, List.set_cons_zero, List.set_cons_succ, i64_w, i32_w]
                              rfl
                             refine pure_ (i := 10) (N := some 11) (v := ?_) (a' := ?_) #[true, true, true, true, true, true, true, true, true, true, true, false] rfl rfl (any_of HT_.out (by kernel_rfl)) (fun _ _ _ h => h) (Or.inl ⟨by rfl, ?_⟩) ?_ ?_
                             rotate_left
                             ·intro w'
                              go_simp
                              with_reducible rfl
                             rotate_left
                             ·simp only [Act.put, List.setIfInBounds_toArray, List.set_cons_zero, List.set_cons_succ, i64_w, i32_w]
                              rfl
                             refine pure_ (i := 11) (N := some 12) (v := ?_) (a' := ?_) #[true, true, true, true, true, true, true, true, true, true, true, true] rfl rfl (any_of HT_.out (by kernel_rfl)) (fun _ _ _ h => h) (Or.inl ⟨by rfl, ?_⟩) ?_ ?_
                             rotate_left
                             ·intro w'
                              go_simp
                              with_reducible rfl
                             rotate_left
                             ·simp only [Act.put, List.setIfInBounds_toArray, List.set_cons_zero, List.set_cons_succ, i64_w, i32_w]
                              rfl
                             refine done_ (done_of HT_.out (by kernel_rfl)) ?_
                             obtain ⟨Ao82, co82, eo82⟩ := Kd.R_slice HO_9.out
                             subst eo82
                             have p220 : 0 ≤ ((rd x11_2 (ji45)) : Int) := of_decide_eq_true (by first | (with_reducible assumption) | assumption)
                             have q220 : (rd x11_2 (ji45)) < (x9_2.length : Int) := of_decide_eq_true (by first | (with_reducible assumption) | assumption)
                             obtain ⟨ad220, e220, hx220_0⟩ := Kd.at_int (Kd.R_reads' HO_9.out).2.2 (rd x11_2 (ji45)) p220 q220
                             cases e220
                             replace p220 := eq_true p220
                             replace q220 := eq_true q220
                             have p56 : 0 ≤ ((rd x11_2 (ji45)) : Int) := of_decide_eq_true (by first | (with_reducible assumption) | assumption)
                             have q56 : ((rd x11_2 (ji45)) : Int) < ((x10_2.length : Int) : Int) := of_decide_eq_true (by first | (with_reducible assumption) | assumption)
                             obtain ⟨go56, co56, eo56, gb56, gl56, cl56, HG56⟩ := Kd.R_form HO_10.out (by omega)
                             (first | cases eo56 | (injection eo56 with ea_ en_ ec_; (first | subst ea_ | (injection ea_ with ea_; subst ea_)); subst ec_; clear en_))
                             have GB56 := Aside0.mk gb56
                             have GG56 := Aside0.mk HG56
                             clear gb56 gl56 HG56
                             obtain ⟨ce56, hcl56, hM56, hcc56, hfr56⟩ := Kd.R_elem HO_10.out z62 ((rd x11_2 (ji45)) : Int) p56 q56
                             obtain rfl := k62_openM hM56
                             have hx56_0 : w79.cell? ⟨go56, ((rd x11_2 (ji45)) : Int).toNat * 2, none⟩ = some (.int .u64 ((rd_T62 x10_2 (rd x11_2 (ji45))).f0)) := hcc56 0 _ rfl
                             have hx56_1 : w79.cell? ⟨go56, ((rd x11_2 (ji45)) : Int).toNat * 2 + 1, none⟩ = some (.int .i64 ((rd_T62 x10_2 (rd x11_2 (ji45))).f1)) := hcc56 1 _ rfl
                             have hf56_0 : w79.frozen? ⟨go56, ((rd x11_2 (ji45)) : Int).toNat * 2, none⟩ = false := hfr56 0
                             have hf56_1 : w79.frozen? ⟨go56, ((rd x11_2 (ji45)) : Int).toNat * 2 + 1, none⟩ = false := hfr56 1
                             clear hcl56 hcc56 hfr56 hM56
                             replace p56 := eq_true p56
                             replace q56 := eq_true q56
                             have HX83 := Aside0.mk (show Kd.R k62 62 w79 w.heap.size (fun _ => True) (.slice (some ⟨go56, 0, none⟩) x10_2.length co56) x10_2 from (by (with_reducible repeat (first | apply Kd.R_alloc | apply Kd.R_drewN | apply Kd.R_drew)); exact HO_10.out))
                             obtain ⟨ce83, hcl83, hM83, hcc83, hfr83⟩ := Kd.R_elem HX83.out z62 ((rd x11_2 (ji45)) : Int) (of_decide_eq_true (by first | (with_reducible assumption) | assumption)) (by have h_ : ((rd x11_2 (ji45)) : Int) < ((x10_2.length : Int) : Int) := of_decide_eq_true (by first | (with_reducible assumption) | assumption); first | exact h_ | (have e_ := (Kd.R_reads' HO_10.out).1; omega) | simpa using h_)
                             obtain rfl := k62_openM hM83
                             have HP83 := Kd.R_seg HX83.out ((rd x11_2 (ji45)) : Int) (of_decide_eq_true (by first | (with_reducible assumption) | assumption)) (by have h_ : ((rd x11_2 (ji45)) : Int) < ((x10_2.length : Int) : Int) := of_decide_eq_true (by first | (with_reducible assumption) | assumption); first | exact h_ | (have e_ := (Kd.R_reads' HO_10.out).1; omega) | simpa using h_) (seg := [.int .u64 (rd x9_2 (rd x11_2 (ji45))), .int .i64 (rd x12_2 (ji48))]) (j := 0) hcl83 hcc83 (show 2 ≤ 2 from by decide) (x' := (⟨rd x9_2 (rd x11_2 (ji45)), rd x12_2 (ji48)⟩ : S62)) (k62_mkM _ _ _ (⟨rd x9_2 (rd x11_2 (ji45)), rd x12_2 (ji48)⟩ : S62) ) (fun _ hk => hk)
                             have hx83_0 := hcc83 0 _ rfl
                             (try simp only [show (k62).sz = 2 from rfl, Nat.mul_one, Nat.add_zero] at hx83_0)
                             have hf83_0 := hfr83 0
                             (try simp only [show (k62).sz = 2 from rfl, Nat.mul_one, Nat.add_zero] at hf83_0)
                             have hx83_1 := hcc83 1 _ rfl
                             (try simp only [show (k62).sz = 2 from rfl, Nat.mul_one, Nat.add_zero] at hx83_1)
                             have hf83_1 := hfr83 1
                             (try simp only [show (k62).sz = 2 from rfl, Nat.mul_one, Nat.add_zero] at hf83_1)
                             clear hcl83 hcc83 hfr83 hM83
                             try go_wp2_with (first | ((with_reducible refine gate_store (t := 62) (p := 122) rfl ?_); refine store_event (t := 62) (p := 122) (v := ?vo_w84) (w1 := ((w79.setCell ⟨go56, ((rd x11_2 (ji45)) : Int).toNat * 2, none⟩ (.int .u64 (rd x9_2 (rd x11_2 (ji45))))).setCell ⟨go56, ((rd x11_2 (ji45)) : Int).toNat * 2 + 1, none⟩ (.int .i64 (rd x12_2 (ji48))))) ?hg ?ho ?hn ?hr ?_; (case ho => rfl); (case hg => rfl); (case hn => rfl); (case hr => first | (go_simp; done) | (go_simp; rfl)); intro w84 hw; have hg : w79.grownBy w84 (some go56) := (by rw [hw]; exact HP83.2); have hp_ : Kd.R k62 62 w84 w.heap.size (fun _ => True) (.slice (some ⟨go56, 0, none⟩) x10_2.length co56) y221 := (by rw [hw, Ny221.out]; exact HP83.1); clear HP83; have n0_ := Aside0.mk (Kd.R_over' (v := (.slice (some ⟨go56, 0, none⟩) x10_2.length co56)) (by (with_reducible repeat (first | apply Kd.R_alloc | apply Kd.R_drewN | apply Kd.R_drew)); exact HO_9.out) (Kd.R_typed HO_10.out) (by decide) hg); have n1_ := Aside0.mk (hp_); have n2_ := Aside0.mk (Kd.R_over' (v := (.slice (some ⟨go56, 0, none⟩) x10_2.length co56)) (by (with_reducible repeat (first | apply Kd.R_alloc | apply Kd.R_drewN | apply Kd.R_drew)); exact HO216.out) (Kd.R_typed HO_10.out) (by decide) hg); have n3_ := Aside0.mk (Kd.R_over' (v := (.slice (some ⟨go56, 0, none⟩) x10_2.length co56)) (by (with_reducible repeat (first | apply Kd.R_alloc | apply Kd.R_drewN | apply Kd.R_drew)); exact HO219.out) (Kd.R_typed HO_10.out) (by decide) hg); have n4_ := Aside0.mk (blk_grown (g := gb191) (o := .cells #[.int .u64 0, .slice none 0 0] 27 (0, 0)) (by (with_reducible repeat (first | refine blk_drewN ?_ _ | refine blk_drew ?_ | refine blk_alloc ?_ _)); exact BK191.out) hg (Kd.R_ne HO_10.out BK191.out (by decide))); have n5_ := Aside0.mk ((by rw [hw]; exact below_set (below_set (HB.out) GB56.out) GB56.out : Below w.heap.size w w84)); clear HO_9; clear HO_10; clear HO216; clear HO219; clear BK191; clear HB; have HO_9 := n0_; have HO_10 := n1_; have HO216 := n2_; have HO219 := n3_; have BK191 := n4_; have HB := n5_; clear n0_ n1_ n2_ n3_ n4_ n5_; clear hg hw hp_))
                             have n0_ := Aside0.mk (Kd.R_drew HO_9.out)
                             have n1_ := Aside0.mk (Kd.R_drew HO_10.out)
                             have n2_ := Aside0.mk (Kd.R_drew HO216.out)
                             have n3_ := Aside0.mk (Kd.R_drew HO219.out)
                             have n4_ := Aside0.mk (blk_drew BK191.out)
                             have n5_ := Aside0.mk (below_drew1 HB.out)
                             clear HO_9
                             clear HO_10
                             clear HO216
                             clear HO219
                             clear BK191
                             clear HB
                             have HO_9 := n0_
                             have HO_10 := n1_
                             have HO216 := n2_
                             have HO219 := n3_
                             have BK191 := n4_
                             have HB := n5_
                             clear n0_ n1_ n2_ n3_ n4_ n5_
                             have p222 : 0 ≤ ((rd x12_2 (ji48)) : Int) := of_decide_eq_true (by first | (with_reducible assumption) | assumption)
                             have q222 : (rd x12_2 (ji48)) < (x9_2.length : Int) := of_decide_eq_true (by first | (with_reducible assumption) | assumption)
                             obtain ⟨ad222, e222, hx222_0⟩ := Kd.at_int (Kd.R_reads' HO_9.out).2.2 (rd x12_2 (ji48)) p222 q222
                             obtain rfl : ad220 = ad222 := (by injection e222)
                             replace p222 := eq_true p222
                             replace q222 := eq_true q222
                             have p223 : 0 ≤ ((rd x11_2 (ji45)) : Int) := of_decide_eq_true (by first | (with_reducible assumption) | assumption)
                             have q223 : (rd x11_2 (ji45)) < (x9_2.length : Int) := of_decide_eq_true (by first | (with_reducible assumption) | assumption)
                             obtain ⟨ad223, e223, hx223_0⟩ := Kd.at_int (Kd.R_reads' HO_9.out).2.2 (rd x11_2 (ji45)) p223 q223
                             obtain rfl : ad220 = ad223 := (by injection e223)
                             replace p223 := eq_true p223
                             replace q223 := eq_true q223
                             have p59 : 0 ≤ ((rd x12_2 (ji48)) : Int) := of_decide_eq_true (by first | (with_reducible assumption) | assumption)
                             have q59 : ((rd x12_2 (ji48)) : Int) < ((x9_2.length : Int) : Int) := of_decide_eq_true (by first | (with_reducible assumption) | assumption)
                             obtain ⟨go59, co59, eo59, gb59, gl59, cl59, HG59⟩ := Kd.R_form HO_9.out (by omega)
                             (first | cases eo59 | (injection eo59 with ea_ en_ ec_; (first | subst ea_ | (injection ea_ with ea_; subst ea_)); subst ec_; clear en_))
                             have GB59 := Aside0.mk gb59
                             have GG59 := Aside0.mk HG59
                             clear gb59 gl59 HG59
                             (first | simp only [add_plain] at hx220_0 | skip)
                             (first | simp only [add_plain] at hx222_0 | skip)
                             (first | simp only [add_plain] at hx223_0 | skip)
                             obtain ⟨hx59_0, hf59_0⟩ := Kd.R_celln 0 HO_9.out ((rd x12_2 (ji48)) : Int) p59 q59
                             replace p59 := eq_true p59
                             replace q59 := eq_true q59
                             have HP86 := Kd.R_putn HO_9.out ((rd x12_2 (ji48)) : Int) (IntKind.u64.wrap ((rd x9_2 (rd x12_2 (ji48))) - (IntKind.u64.wrap (t192 - (rd x9_2 (rd x11_2 (ji45)))))))
                             rw [← Ny224.out] at HP86
                             have HQ86 := Aside0.mk HP86
                             clear HP86
                             refine start_ (n := 15) (S := fun w' => w'.cell? ⟨go59, ((rd x12_2 (ji48))).toNat, none⟩ = some (.int .u64 (rd x9_2 (rd x12_2 (ji48)))) ∧ w'.cell? ⟨go59, ((rd x11_2 (ji45))).toNat, none⟩ = some (.int .u64 (rd x9_2 (rd x11_2 (ji45))))) (ds := [14]) #[false, false, false, false, false, false, false, false, false, false, false, false, false, false, false] (by kernel_rfl) rfl rfl ⟨hx222_0, hx223_0⟩ (fun hHeld => ?_); refine with_tabW drawlotref14_Build.tab27 drawlotref14_Build.bits27 (fun HT_ HW_ => ?_)
                             generalize w84.drew = w85 at HO_9 HO_10 HO216 HO219 BK191 HB GG59 HQ86 hf59_0 hx220_0 hx222_0 hx223_0 hx59_0 hHeld ⊢
                             refine pure_ (i := 0) (N := some 123) (v := ?_) (a' := ?_) #[true, false, false, false, false, false, false, false, false, false, false, false, false, false, false] rfl rfl (any_of HT_.out (by kernel_rfl)) (fun _ _ _ h => h) (Or.inl ⟨by rfl, ?_⟩) ?_ ?_
                             rotate_left
                             ·intro w'
                              go_simp
                              with_reducible rfl
                             rotate_left
                             ·simp only [Act.put, List.setIfInBounds_toArray, List.set_cons_zero, List.set_cons_succ, i64_w, i32_w]
                              rfl
                             refine pure_ (i := 1) (N := some 124) (v := ?_) (a' := ?_) #[true, true, false, false, false, false, false, false, false, false, false, false, false, false, false] rfl rfl (any_of HT_.out (by kernel_rfl)) (fun _ _ _ h => h) (Or.inl ⟨by rfl, ?_⟩) ?_ ?_
                             rotate_left
                             ·intro w'
                              go_simp
                              with_reducible rfl
                             rotate_left
                             ·simp only [Act.put, List.setIfInBounds_toArray, List.set_cons_zero, List.set_cons_succ, i64_w, i32_w]
                              rfl
                             refine pure_ (i := 2) (N := some 125) (v := ?_) (a' := ?_) #[true, true, true, false, false, false, false, false, false, false, false, false, false, false, false] rfl rfl (any_of HT_.out (by kernel_rfl)) (fun _ _ _ h => h) (Or.inl ⟨by rfl, ?_⟩) ?_ ?_
                             rotate_left
                             ·intro w'
                              go_simp
                              with_reducible rfl
                             rotate_left
                             ·simp only [Act.put, List.setIfInBounds_toArray, List.set_cons_zero, List.set_cons_succ, i64_w, i32_w]
                              rfl
                             refine pure_ (i := 3) (N := some 126) (v := ?_) (a' := ?_) #[true, true, true, true, false, false, false, false, false, false, false, false, false, false, false] rfl rfl (any_of HT_.out (by kernel_rfl)) (fun _ _ _ h => h) (Or.inl ⟨by rfl, ?_⟩) ?_ ?_
                             rotate_left
                             ·intro w'
                              go_simp
                              with_reducible rfl
                             rotate_left
                             ·simp only [Act.put, List.setIfInBounds_toArray, List.set_cons_zero, List.set_cons_succ, i64_w, i32_w]
                              rfl
                             refine pure_ (i := 4) (N := some 127) (v := ?_) (a' := ?_) #[true, true, true, true, true, false, false, false, false, false, false, false, false, false, false] rfl rfl (any_of HT_.out (by kernel_rfl)) (fun _ _ _ h => h) (Or.inl ⟨by rfl, ?_⟩) ?_ ?_
                             rotate_left
                             ·intro w'
                              go_simp
                              with_reducible rfl
                             rotate_left
                             ·simp only [Act.put, List.setIfInBounds_toArray, List.set_cons_zero, List.set_cons_succ, i64_w, i32_w]
                              rfl
                             refine pure_ (i := 6) (N := some 129) (v := ?_) (a' := ?_) #[true, true, true, true, true, false, true, false, false, false, false, false, false, false, false] rfl rfl (any_of HT_.out (by kernel_rfl)) (fun _ _ _ h => h) (Or.inl ⟨by rfl, ?_⟩) ?_ ?_
                             rotate_left
                             ·intro w'
                              go_simp
                              with_reducible rfl
                             rotate_left
                             ·simp only [Act.put, List.setIfInBounds_toArray, List.set_cons_zero, List.set_cons_succ, i64_w, i32_w]
                              rfl
                             refine pure_ (i := 7) (N := some 130) (v := ?_) (a' := ?_) #[true, true, true, true, true, false, true, true, false, false, false, false, false, false, false] rfl rfl (any_of HT_.out (by kernel_rfl)) (fun _ _ _ h => h) (Or.inl ⟨by rfl, ?_⟩) ?_ ?_
                             rotate_left
                             ·intro w'
                              go_simp
                              with_reducible rfl
                             rotate_left
                             ·simp only [Act.put, List.setIfInBounds_toArray, List.set_cons_zero, List.set_cons_succ, i64_w, i32_w]
                              rfl
                             refine pure_ (i := 8) (N := some 131) (v := ?_) (a' := ?_) #[true, true, true, true, true, false, true, true, true, false, false, false, false, false, false] rfl rfl (any_of HT_.out (by kernel_rfl)) (fun _ _ _ h => h) (Or.inl ⟨by rfl, ?_⟩) ?_ ?_
                             rotate_left
                             ·intro w'
                              go_simp
                              with_reducible rfl
                             rotate_left
                             ·simp only [Act.put, List.setIfInBounds_toArray, List.set_cons_zero, List.set_cons_succ, i64_w, i32_w]
                              rfl
                             refine pure_ (i := 9) (N := some 132) (v := ?_) (a' := ?_) #[true, true, true, true, true, false, true, true, true, true, false, false, false, false, false] rfl rfl (any_of HT_.out (by kernel_rfl)) (fun _ _ _ h => h) (Or.inl ⟨by rfl, ?_⟩) ?_ ?_
                             rotate_left
                             ·intro w'
                              go_simp
                              with_reducible rfl
                             rotate_left
                             ·simp only [Act.put, List.setIfInBounds_toArray, List.set_cons_zero, List.set_cons_succ, i64_w, i32_w]
                              rfl
                             refine take_ (i := 5) (N := some 128) (v := ?_) (a' := ?_) #[true, true, true, true, true, true, true, true, true, true, false, false, false, false, false] rfl rfl (take_ofW HT_.out HW_.out (by kernel_rfl)) (fun _ _ _ h => h) (Or.inl ⟨by rfl, ?_⟩) hHeld ?_ ?_
                             rotate_left
                             ·rintro w' ⟨s0, s1⟩
                              go_simp
                              with_reducible rfl
                             rotate_left
                             ·simp only [Act.put, List.setIfInBounds_toArray, List.set_cons_zero, List.set_cons_succ, i64_w, i32_w]
                              rfl
                             refine take_ (i := 10) (N := some 133) (v := ?_) (a' := ?_) #[true, true, true, true, true, true, true, true, true, true, true, false, false, false, false] rfl rfl (take_ofW HT_.out HW_.out (by kernel_rfl)) (fun _ _ _ h => h) (Or.inl ⟨by rfl, ?_⟩) hHeld ?_ ?_
                             rotate_left
                             ·rintro w' ⟨s0, s1⟩
                              go_simp
                              with_reducible rfl
                             rotate_left
                             ·simp only [Act.put, List.setIfInBounds_toArray, List.set_cons_zero, List.set_cons_succ, i64_w, i32_w]
                              rfl
                             refine pure_ (i := 11) (N := some 134) (v := ?_) (a' := ?_) #[true, true, true, true, true, true, true, true, true, true, true, true, false, false, false] rfl rfl (any_of HT_.out (by kernel_rfl)) (fun _ _ _ h => h) (Or.inl ⟨by rfl, ?_⟩) ?_ ?_
                             rotate_left
                             ·intro w'
                              go_simp
                              with_reducible rfl
                             rotate_left
                             ·simp only [Act.put, List.setIfInBounds_toArray, List.set_cons_zero, List.set_cons_succ, i64_w, i32_w]
                              rfl
                             refine pure_ (i := 12) (N := some 135) (v := ?_) (a' := ?_) #[true, true, true, true, true, true, true, true, true, true, true, true, true, false, false] rfl rfl (any_of HT_.out (by kernel_rfl)) (fun _ _ _ h => h) (Or.inl ⟨by rfl, ?_⟩) ?_ ?_
                             rotate_left
                             ·intro w'
                              go_simp
                              with_reducible rfl
                             rotate_left
                             ·simp only [Act.put, List.setIfInBounds_toArray, List.set_cons_zero, List.set_cons_succ, i64_w, i32_w]
                              rfl
                             refine pure_ (i := 13) (N := some 136) (v := ?_) (a' := ?_) #[true, true, true, true, true, true, true, true, true, true, true, true, true, true, false] rfl rfl (any_of HT_.out (by kernel_rfl)) (fun _ _ _ h => h) (Or.inl ⟨by rfl, ?_⟩) ?_ ?_
                             rotate_left
                             ·intro w'
                              go_simp
                              with_reducible rfl
                             rotate_left
                             ·simp only [Act.put, List.setIfInBounds_toArray, List.set_cons_zero, List.set_cons_succ, i64_w, i32_w]
                              rfl
                             refine last_ (i := 14) (N := none) #[true, true, true, true, true, true, true, true, true, true, true, true, true, true, true] rfl rfl (one_of HT_.out (by kernel_rfl)) (by decide) (fun K hK => ?_)
                             refine skip_ (w1 := ?_) (by rfl) rfl ?_ ?_
                             rotate_left
                             ·go_simp
                              rfl
                             refine hK.out _ _ ?_
                             clear hK K
                             refine done_ (done_of HT_.out (by kernel_rfl)) ?_
                             have p60 : 0 ≤ ((rd x12_2 (ji48)) : Int) := of_decide_eq_true (by first | (with_reducible assumption) | assumption)
                             have q60 : ((rd x12_2 (ji48)) : Int) < ((x9_2.length : Int) : Int) := of_decide_eq_true (by first | (with_reducible assumption) | assumption)
                             replace p60 := eq_true p60
                             replace q60 := eq_true q60
                             try go_wp2_with (first | ((with_reducible refine gate_builtin (b := .append) (xs := #[.tmp 147, .tmp 149]) rfl ?_); (try (refine gate_guard (by rfl) ?_; dsimp only)); at_builtin; refine Kd.R_append (Kd.int .i64) (w0 := w) w.heap.size rfl (.tmp 147) (.tmp 149) 65 3 (.int .i64 0) 8 rfl Try.underlying65 info3 rfl (by decide) (by omega) (.slice (some ad213) y217.length co78) y217 (rd x12_2 (ji48)) [.int .i64 (rd x12_2 (ji48))] (fun k_ => some k_ ≠ (.slice (some ad212) y214.length co77 : Value).ownBlock) (fun _ => False) rfl (by first | (go_simp; done) | (go_simp; rfl)) ?aP (fun _ hk => hk.elim) ?aF ?aO ?aB ?aS ?aL ?_; (case aP => exact rfl); (case aB => exact (by repeat (first | (with_reducible first | exact HB.out | apply below_alloc | apply pw_below_drewN | apply below_drew1 | refine below_set ?_ GB59.out | refine below_set ?_ GE191.out) | exact HB.out))); (case aF => exact (fun k_ hk => Kd.fresh' (Kd.R_lt (by (with_reducible repeat (first | apply Kd.R_alloc | apply Kd.R_drewN | apply Kd.R_drew)); exact (Kd.R_mono (Kd.R_far (p := ⟨go59, ((rd x12_2 (ji48)) : Int).toNat, none⟩) (Kd.R_types HO216.out GG59.out (by decide)) (fun _ hk => hk.2) (.int .u64 (IntKind.u64.wrap ((rd x9_2 (rd x12_2 (ji48))) - (IntKind.u64.wrap (t192 - (rd x9_2 (rd x11_2 (ji45))))))))) (fun _ h_ => h_.1)))) k_ hk)); (case aO => exact (by (with_reducible repeat (first | apply Kd.R_alloc | apply Kd.R_drewN | apply Kd.R_drew)); exact Kd.R_mono (Kd.R_far (p := ⟨go59, ((rd x12_2 (ji48)) : Int).toNat, none⟩) (Kd.R_types HO219.out GG59.out (by decide)) (fun _ hk => hk.2) (.int .u64 (IntKind.u64.wrap ((rd x9_2 (rd x12_2 (ji48))) - (IntKind.u64.wrap (t192 - (rd x9_2 (rd x11_2 (ji45))))))))) (fun _ hk => hk.1))); (case aS => exact (below_size (by repeat (first | (with_reducible first | exact HB.out | apply below_alloc | apply pw_below_drewN | apply below_drew1 | refine below_set ?_ GB59.out | refine below_set ?_ GE191.out) | exact HB.out)))); (case aL => have := LMc75.out; omega); intro v230 w87 ho hb hg hat; rw [← Ny229.out] at ho; have n0_ := Aside0.mk (Kd.R_over' (by (with_reducible repeat (first | apply Kd.R_alloc | apply Kd.R_drewN | apply Kd.R_drew)); exact HQ86.out) (Kd.R_typed (by (with_reducible repeat (first | apply Kd.R_alloc | apply Kd.R_drewN | apply Kd.R_drew)); exact (Kd.R_mono (Kd.R_far (p := ⟨go59, ((rd x12_2 (ji48)) : Int).toNat, none⟩) (Kd.R_types HO219.out GG59.out (by decide)) (fun _ hk => hk.2) (.int .u64 (IntKind.u64.wrap ((rd x9_2 (rd x12_2 (ji48))) - (IntKind.u64.wrap (t192 - (rd x9_2 (rd x11_2 (ji45))))))))) (fun _ h_ => h_.1)))) (by decide) hg); have n1_ := Aside0.mk (Kd.R_over' (by (with_reducible repeat (first | apply Kd.R_alloc | apply Kd.R_drewN | apply Kd.R_drew)); exact (Kd.R_mono (Kd.R_far (p := ⟨go59, ((rd x12_2 (ji48)) : Int).toNat, none⟩) (Kd.R_types HO_10.out GG59.out (by decide)) (fun _ hk => hk.2) (.int .u64 (IntKind.u64.wrap ((rd x9_2 (rd x12_2 (ji48))) - (IntKind.u64.wrap (t192 - (rd x9_2 (rd x11_2 (ji45))))))))) (fun _ h_ => h_.1))) (Kd.R_typed (by (with_reducible repeat (first | apply Kd.R_alloc | apply Kd.R_drewN | apply Kd.R_drew)); exact (Kd.R_mono (Kd.R_far (p := ⟨go59, ((rd x12_2 (ji48)) : Int).toNat, none⟩) (Kd.R_types HO219.out GG59.out (by decide)) (fun _ hk => hk.2) (.int .u64 (IntKind.u64.wrap ((rd x9_2 (rd x12_2 (ji48))) - (IntKind.u64.wrap (t192 - (rd x9_2 (rd x11_2 (ji45))))))))) (fun _ h_ => h_.1)))) (by decide) hg); have n2_ := Aside0.mk (Kd.R_after (ok := (fun _ => True)) (by (with_reducible repeat (first | apply Kd.R_alloc | apply Kd.R_drewN | apply Kd.R_drew)); exact Kd.R_mono (Kd.R_far (p := ⟨go59, ((rd x12_2 (ji48)) : Int).toNat, none⟩) (Kd.R_types HO216.out GG59.out (by decide)) (fun _ hk => hk.2) (.int .u64 (IntKind.u64.wrap ((rd x9_2 (rd x12_2 (ji48))) - (IntKind.u64.wrap (t192 - (rd x9_2 (rd x11_2 (ji45))))))))) (fun _ hk => ⟨trivial, hk.1⟩)) hg hat); have n3_ := Aside0.mk (blk_grown (g := gb191) (o := .cells #[.int .u64 0, .slice none 0 0] 27 (0, 0)) (by (with_reducible repeat (first | refine blk_drewN ?_ _ | refine blk_drew ?_ | refine blk_alloc ?_ _)); refine blk_far ?_ (by have h_ := Kd.R_ne HO_9.out BK191.out (by decide); intro e_; exact h_ (by rw [e_]; rfl)) _; (with_reducible repeat (first | refine blk_drewN ?_ _ | refine blk_drew ?_ | refine blk_alloc ?_ _)); exact BK191.out) hg (Kd.R_ne HO219.out BK191.out (by decide))); have n4_ := Aside0.mk (hb); have n5_ := Aside0.mk (ho); clear HO_9; clear HO_10; clear HO216; clear BK191; clear HB; clear HO219; have HO_9 := n0_; have HO_10 := n1_; have HO216 := n2_; have BK191 := n3_; have HB := n4_; have HO231 := n5_; clear n0_ n1_ n2_ n3_ n4_ n5_; clear ho hb hg hat))
                             go_roundg kj38
                             case measure => have := HK1.out; have := HK2.out; have := HJ38.out; omega
                             case rel => exact ⟨(y224), (y221), (y214), (y229), H', ⟨by have := HK1.out; have := HK2.out; have := HJ38.out; omega⟩, ⟨by (with_reducible repeat (first | apply Kd.R_alloc | apply Kd.R_drewN | apply Kd.R_drew)); exact HO_9.out⟩, ⟨by (with_reducible repeat (first | apply Kd.R_alloc | apply Kd.R_drewN | apply Kd.R_drew)); exact HO_10.out⟩, ⟨by (with_reducible repeat (first | apply Kd.R_alloc | apply Kd.R_drewN | apply Kd.R_drew)); exact Kd.R_mono HO216.out (fun _ hk => hk.2)⟩, ⟨by (with_reducible repeat (first | apply Kd.R_alloc | apply Kd.R_drewN | apply Kd.R_drew)); exact HO231.out⟩, ⟨by (with_reducible repeat (first | refine blk_drewN ?_ _ | refine blk_drew ?_ | refine blk_alloc ?_ _)); exact BK191.out⟩, ⟨by repeat (first | (with_reducible first | exact HB.out | apply below_alloc | apply pw_below_drewN | apply below_drew1 | refine below_set ?_ GE191.out) | exact HB.out)⟩⟩
                            ·rw [if_neg c75] at H
                             exact absurd H (by simp)
                          ·rw [if_neg c58] at H
                           exact absurd H (by simp)
                         ·rw [if_neg c57] at H
                          exact absurd H (by simp)
                        ·rw [if_neg c55] at H
                         exact absurd H (by simp)
                       ·rw [if_neg c54] at H
                        exact absurd H (by simp)
                      ·rw [if_neg c53] at H
                       exact absurd H (by simp)
                     ·rw [if_neg c52] at H
                      exact absurd H (by simp)
                    ·rw [if_neg c51] at H
                     exact absurd H (by simp)
                   ·rw [if_neg c50] at H
                    exact absurd H (by simp)
                  ·rw [if_neg c49] at H
                   exact absurd H (by simp)
                 ·rw [if_neg c47] at H
                  exact absurd H (by simp)
                ·rw [if_neg c46] at H
                 exact absurd H (by simp)
               ·replace c44 := Bool.eq_false_iff.mpr c44
                subst c44
                have H1 : (some (t192, x10_2, 0)) = some (r1, r2, r3) := by rw [if_neg (show ¬ (false = true) by decide)] at H; exact H
                clear H
                have H := H1
                clear H1
                simp only [Option.some.injEq, Prod.mk.injEq] at H
                obtain ⟨rfl, rfl, rfl⟩ := H
                obtain ⟨Ao88, co88, eo88⟩ := Kd.R_slice HO_10.out
                subst eo88
                have hcz89_0 : wc.cell? ⟨gb191, 0, none⟩ = some (.int .u64 0) := (blk_cell BK191.out 0).trans rfl
                have hcz89_1 : wc.cell? ⟨gb191, 1, none⟩ = some (.slice none 0 0) := (blk_cell BK191.out 1).trans rfl
                have hfz89_0 := blk_frozen BK191.out 0
                have hfz89_1 := blk_frozen BK191.out 1
                go_wp2
                refine bodyPost_ret (results_ct rfl _ _ gb191 27 #[.int .u64 t192, .slice Ao88 x10_2.length co88] (0, 0) _ rfl (by (with_reducible repeat (first | refine blk_drewN ?_ _ | refine blk_drew ?_ | refine blk_alloc ?_ _)); refine blk_put (cs := #[.int .u64 t192, .slice none 0 0]) ?_ 1 _ rfl; (with_reducible repeat (first | refine blk_drewN ?_ _ | refine blk_drew ?_ | refine blk_alloc ?_ _)); refine blk_put (cs := #[.int .u64 0, .slice none 0 0]) ?_ 0 _ rfl; (with_reducible repeat (first | refine blk_drewN ?_ _ | refine blk_drew ?_ | refine blk_alloc ?_ _)); exact BK191.out) Try.underlying27 rfl (by first | (rw [Ar.cells_size]; kernel_rfl) | kernel_rfl)) rfl ?_
                exact ⟨_, by first | rfl | (simp [errW_none, errW_some] <;> rfl) | (simp [*, errW_none, errW_some] <;> rfl), by (with_reducible repeat (first | apply Kd.R_alloc | apply Kd.R_drewN | apply Kd.R_drew)); exact Kd.R_mono (Kd.R_far (p := ⟨gb191, 1, none⟩) (Kd.R_far (p := ⟨gb191, 0, none⟩) (Kd.R_types HO_10.out BK191.out (by decide)) (fun _ hk => hk.2) (.int .u64 t192)) (fun _ hk => hk.2) (.slice Ao88 x10_2.length co88)) (fun _ hk => trivial), by repeat (first | (with_reducible first | exact HB.out | apply below_alloc | apply pw_below_drewN | apply below_drew1 | refine below_set ?_ GE191.out) | exact HB.out)⟩
       ·rw [if_neg c14] at H
        exact absurd H (by simp)
      ·rw [if_neg c13] at H
       exact absurd H (by simp)
     ·rw [if_neg c12] at H
      exact absurd H (by simp)
    ·replace c11 := Bool.eq_false_iff.mpr c11
     subst c11
     have H1 : (some (0, ([] : List (S62)), 11)) = some (r1, r2, r3) := by rw [if_neg (show ¬ (false = true) by decide)] at H; exact H
     clear H
     have H := H1
     clear H1
     simp only [Option.some.injEq, Prod.mk.injEq] at H
     obtain ⟨rfl, rfl, rfl⟩ := H
     go_enter Try.func15, Try.ntmps15
     try simp only [List.append]
     go_wp2_with (first | ((with_reducible refine gate_dst (N := 2) rfl ?_); (try (refine gate_guard (by rfl) ?_; dsimp only)); refine box_event ?hg (N := 2) ?hd (cs := #[.int .u64 0, .slice none 0 0]) (t := 27) ?hr ?_; (case hd => rfl); (case hg => rfl); (case hr => first | (go_simp; done) | (go_simp; rfl)); intro gb191 hg w90 hbox hb; have n0_ := Aside0.mk (below_step (by repeat (first | (with_reducible first | exact HB.out | apply below_alloc | apply pw_below_drewN | apply below_drew1) | exact HB.out)) hb); have n1_ := Aside0.mk (hbox); have n2_ := Aside0.mk ((by rw [hg]; exact (below_size (by repeat (first | (with_reducible first | exact HB.out | apply below_alloc | apply pw_below_drewN | apply below_drew1) | exact HB.out))) : w.heap.size ≤ gb191)); have n3_ := Aside0.mk ((by rw [hg]; exact (below_size (by repeat (first | (with_reducible first | exact HB.out | apply below_alloc | apply pw_below_drewN | apply below_drew1) | exact HB.out))) : w.heap.size ≤ gb191)); clear HB; have HB := n0_; have BK191 := n1_; have GW191 := n2_; have GE191 := n3_; clear n0_ n1_ n2_ n3_; clear hb hbox hg) | ((with_reducible refine gate_callee (f := 45) rfl ?_); refine goesL_ (some 22) rfl rfl Try.func45 (by kernel_rfl) rfl #[.slice A0 l0.length c0] rfl (by (try simp only [List.map_toArray, List.map_cons, List.map_nil]); first | done | rfl | (simp only [List.length_drop, List.length_take]; rfl)) ?_; (with_reducible refine (drawlotref09_Total.calls k _ _ l0 t192 true _ ?side1 ?side2 A5.out).mono ?_); (case side1 => repeat (first | exact (Kd.C_below HR0.out HB.out) | (with_reducible refine Kd.C_alloc ?_ _) | (with_reducible refine Kd.C_drewN ?_ _) | (with_reducible refine Kd.C_drew ?_))); (case side2 => exact HC0.out); rintro e w' ⟨rfl, ⟨nd, rfl⟩⟩; refine ⟨_, rfl, ?_⟩; (try (rw [drewN_self w90]; generalize hq_ : World.drewN w90 _ = w90; have n0_ : Aside0 (w90.heap[gb191]? = some (.cells #[.int .u64 0, .slice none 0 0] 27 (0, 0))) := ⟨by rw [← hq_]; exact (by (with_reducible repeat (first | refine blk_drewN ?_ _ | refine blk_drew ?_ | refine blk_alloc ?_ _)); exact BK191.out)⟩; have n1_ : Aside0 (Below w.heap.size w w90) := ⟨by rw [← hq_]; exact (by repeat (first | (with_reducible first | exact HB.out | apply below_alloc | apply pw_below_drewN | apply below_drew1 | refine below_set ?_ GE191.out) | exact HB.out))⟩; clear BK191 HB hq_; have BK191 := n0_; have HB := n1_; clear n0_ n1_))) | ((with_reducible refine gate_callee (f := 52) rfl ?_); refine goesL_ (some 37) rfl rfl Try.func52 (by kernel_rfl) rfl #[.int .u64 (IntKind.u64.wrap ((l0.length : Int))), .int .u64 t192] rfl (by (try simp only [List.map_toArray, List.map_cons, List.map_nil]); first | done | rfl | (simp only [List.length_drop, List.length_take]; rfl)) ?_; (with_reducible refine (drawlotref09_Mul.calls k (IntKind.u64.wrap ((l0.length : Int))) t192 t194 false _ A10.out).mono ?_); rintro e w' ⟨rfl, ⟨nd, rfl⟩⟩; refine ⟨_, rfl, ?_⟩; (try (rw [drewN_self w90]; generalize hq_ : World.drewN w90 _ = w90; have n0_ : Aside0 (w90.heap[gb191]? = some (.cells #[.int .u64 0, .slice none 0 0] 27 (0, 0))) := ⟨by rw [← hq_]; exact (by (with_reducible repeat (first | refine blk_drewN ?_ _ | refine blk_drew ?_ | refine blk_alloc ?_ _)); exact BK191.out)⟩; have n1_ : Aside0 (Below w.heap.size w w90) := ⟨by rw [← hq_]; exact (by repeat (first | (with_reducible first | exact HB.out | apply below_alloc | apply pw_below_drewN | apply below_drew1 | refine below_set ?_ GE191.out) | exact HB.out))⟩; clear BK191 HB hq_; have BK191 := n0_; have HB := n1_; clear n0_ n1_)); have hcz91_0 : w90.cell? ⟨gb191, 0, none⟩ = some (.int .u64 0) := (blk_cell BK191.out 0).trans rfl; have hcz91_1 : w90.cell? ⟨gb191, 1, none⟩ = some (.slice none 0 0) := (blk_cell BK191.out 1).trans rfl; have hfz91_0 := blk_frozen BK191.out 0; have hfz91_1 := blk_frozen BK191.out 1))
     refine bodyPost_ret (results_ct rfl _ _ gb191 27 #[.int .u64 0, .slice none 0 0] (0, 0) _ rfl (by (with_reducible repeat (first | refine blk_drewN ?_ _ | refine blk_drew ?_ | refine blk_alloc ?_ _)); refine blk_put (cs := #[.int .u64 0, .slice none 0 0]) ?_ 1 _ rfl; (with_reducible repeat (first | refine blk_drewN ?_ _ | refine blk_drew ?_ | refine blk_alloc ?_ _)); refine blk_put (cs := #[.int .u64 0, .slice none 0 0]) ?_ 0 _ rfl; (with_reducible repeat (first | refine blk_drewN ?_ _ | refine blk_drew ?_ | refine blk_alloc ?_ _)); exact BK191.out) Try.underlying27 rfl (by first | (rw [Ar.cells_size]; kernel_rfl) | kernel_rfl)) rfl ?_
     exact ⟨_, by first | rfl | (simp [errW_none, errW_some] <;> rfl) | (simp [*, errW_none, errW_some] <;> rfl), by first | exact Kd.R_nil _ _ _ _ _ | exact Kd.N_nil _ _ _ _ _ | exact Kd.V_nil _ _ _ _ _ | exact Kd.Q_nil _ _ _ _ _ | exact Kd.S_nil _ _ _ _ _, by repeat (first | (with_reducible first | exact HB.out | apply below_alloc | apply pw_below_drewN | apply below_drew1 | refine below_set ?_ GE191.out) | exact HB.out)⟩
  ·replace c6 := Bool.eq_false_iff.mpr c6
   subst c6
   have H1 : (some (0, ([] : List (S62)), 11)) = some (r1, r2, r3) := by rw [if_neg (show ¬ (false = true) by decide)] at H; exact H
   clear H
   have H := H1
   clear H1
   simp only [Option.some.injEq, Prod.mk.injEq] at H
   obtain ⟨rfl, rfl, rfl⟩ := H
   go_enter Try.func15, Try.ntmps15
   try simp only [List.append]
   go_wp2_with (first | ((with_reducible refine gate_dst (N := 2) rfl ?_); (try (refine gate_guard (by rfl) ?_; dsimp only)); refine box_event ?hg (N := 2) ?hd (cs := #[.int .u64 0, .slice none 0 0]) (t := 27) ?hr ?_; (case hd => rfl); (case hg => rfl); (case hr => first | (go_simp; done) | (go_simp; rfl)); intro gb191 hg w92 hbox hb; have n0_ := Aside0.mk (below_step (by repeat (first | (with_reducible first | exact HB.out | apply below_alloc | apply pw_below_drewN | apply below_drew1) | exact HB.out)) hb); have n1_ := Aside0.mk (hbox); have n2_ := Aside0.mk ((by rw [hg]; exact (below_size (by repeat (first | (with_reducible first | exact HB.out | apply below_alloc | apply pw_below_drewN | apply below_drew1) | exact HB.out))) : w.heap.size ≤ gb191)); have n3_ := Aside0.mk ((by rw [hg]; exact (below_size (by repeat (first | (with_reducible first | exact HB.out | apply below_alloc | apply pw_below_drewN | apply below_drew1) | exact HB.out))) : w.heap.size ≤ gb191)); clear HB; have HB := n0_; have BK191 := n1_; have GW191 := n2_; have GE191 := n3_; clear n0_ n1_ n2_ n3_; clear hb hbox hg) | ((with_reducible refine gate_callee (f := 45) rfl ?_); refine goesL_ (some 22) rfl rfl Try.func45 (by kernel_rfl) rfl #[.slice A0 l0.length c0] rfl (by (try simp only [List.map_toArray, List.map_cons, List.map_nil]); first | done | rfl | (simp only [List.length_drop, List.length_take]; rfl)) ?_; (with_reducible refine (drawlotref09_Total.calls k _ _ l0 t192 false _ ?side1 ?side2 A5.out).mono ?_); (case side1 => repeat (first | exact (Kd.C_below HR0.out HB.out) | (with_reducible refine Kd.C_alloc ?_ _) | (with_reducible refine Kd.C_drewN ?_ _) | (with_reducible refine Kd.C_drew ?_))); (case side2 => exact HC0.out); rintro e w' ⟨rfl, ⟨nd, rfl⟩⟩; refine ⟨_, rfl, ?_⟩; (try (rw [drewN_self w92]; generalize hq_ : World.drewN w92 _ = w92; have n0_ : Aside0 (w92.heap[gb191]? = some (.cells #[.int .u64 0, .slice none 0 0] 27 (0, 0))) := ⟨by rw [← hq_]; exact (by (with_reducible repeat (first | refine blk_drewN ?_ _ | refine blk_drew ?_ | refine blk_alloc ?_ _)); exact BK191.out)⟩; have n1_ : Aside0 (Below w.heap.size w w92) := ⟨by rw [← hq_]; exact (by repeat (first | (with_reducible first | exact HB.out | apply below_alloc | apply pw_below_drewN | apply below_drew1 | refine below_set ?_ GE191.out) | exact HB.out))⟩; clear BK191 HB hq_; have BK191 := n0_; have HB := n1_; clear n0_ n1_)); have hcz93_0 : w92.cell? ⟨gb191, 0, none⟩ = some (.int .u64 0) := (blk_cell BK191.out 0).trans rfl; have hcz93_1 : w92.cell? ⟨gb191, 1, none⟩ = some (.slice none 0 0) := (blk_cell BK191.out 1).trans rfl; have hfz93_0 := blk_frozen BK191.out 0; have hfz93_1 := blk_frozen BK191.out 1))
   refine bodyPost_ret (results_ct rfl _ _ gb191 27 #[.int .u64 0, .slice none 0 0] (0, 0) _ rfl (by (with_reducible repeat (first | refine blk_drewN ?_ _ | refine blk_drew ?_ | refine blk_alloc ?_ _)); refine blk_put (cs := #[.int .u64 0, .slice none 0 0]) ?_ 1 _ rfl; (with_reducible repeat (first | refine blk_drewN ?_ _ | refine blk_drew ?_ | refine blk_alloc ?_ _)); refine blk_put (cs := #[.int .u64 0, .slice none 0 0]) ?_ 0 _ rfl; (with_reducible repeat (first | refine blk_drewN ?_ _ | refine blk_drew ?_ | refine blk_alloc ?_ _)); exact BK191.out) Try.underlying27 rfl (by first | (rw [Ar.cells_size]; kernel_rfl) | kernel_rfl)) rfl ?_
   exact ⟨_, by first | rfl | (simp [errW_none, errW_some] <;> rfl) | (simp [*, errW_none, errW_some] <;> rfl), by first | exact Kd.R_nil _ _ _ _ _ | exact Kd.N_nil _ _ _ _ _ | exact Kd.V_nil _ _ _ _ _ | exact Kd.Q_nil _ _ _ _ _ | exact Kd.S_nil _ _ _ _ _, by repeat (first | (with_reducible first | exact HB.out | apply below_alloc | apply pw_below_drewN | apply below_drew1 | refine below_set ?_ GE191.out) | exact HB.out)⟩

end Go.Proofs.Ytbafkkbbjacekaa.PB
