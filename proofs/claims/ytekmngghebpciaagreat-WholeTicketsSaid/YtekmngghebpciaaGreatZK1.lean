/- Proved here: LawWholeTickets, the statement of the row that this text's last part names, and all that it rests on: words on walks, contracts of the program's functions, plain lemmas. Conditions: none but those of the given row. (part 2 of 6) -/
import Derived.Test.YtekmngghebpciaaGreatZK0
section
namespace Go.Proofs.YtekmngghebpciaaGreat.PW
open Go.RowKit Go.Proofs.YtekmngghebpciaaGreatW.PrintWords Go.Proofs.YtekmngghebpciaaGreatW.PrintLast Go.Proofs.YtekmngghebpciaaGreatW.PrintMore
attribute [local go_sem] max2_int min2_int max_two min_two max_three min_three max_four min_four
set_option linter.unusedVariables false
set_option linter.unusedSimpArgs false
def slices_IndexFunc_129_with_nat_rights_1.l0 : Nat → List (List Int) → Int → Int → Option (Int)
 | 0, _, _, _ => none
 | k + 1, x0, x7, x8 => if x8 < x7 then (if 0 ≤ x8 then (if x8 < (x0.length : Int) then ((nat_rights_1.f k (rd_L2 x0 x8)).bind fun t134 => (if t134 = true then (some x8) else (slices_IndexFunc_129_with_nat_rights_1.l0 k x0 x7 (wrap64 (x8 + 1))))) else (none)) else (none)) else (some (-1))
def slices_IndexFunc_129_with_nat_rights_1.f (k : Nat) (l0 : List (List Int)) : Option (Int) := slices_IndexFunc_129_with_nat_rights_1.l0 k l0 (l0.length : Int) 0
theorem slices_IndexFunc_129_with_nat_rights_1.mono_l : ∀ k, (∀ y0 y1 y2, LeO (slices_IndexFunc_129_with_nat_rights_1.l0 k y0 y1 y2) (slices_IndexFunc_129_with_nat_rights_1.l0 (k + 1) y0 y1 y2))
 | 0 => fun _ _ _ r h => by simp [slices_IndexFunc_129_with_nat_rights_1.l0] at h
 | k + 1 => by
  have ih0 := slices_IndexFunc_129_with_nat_rights_1.mono_l k
  ·intro y0 y1 y2
   unfold slices_IndexFunc_129_with_nat_rights_1.l0
   repeat' first
   | (with_reducible exact ih0 _ _ _)
   | (with_reducible exact nat_rights_1.mono _ _)
   | (with_reducible exact LeO.refl _)
   | (with_reducible exact LeO.none _)
   | (with_reducible refine LeO.ite ?_ ?_)
   | (with_reducible refine LeO.bind ?_ (fun _ => ?_))
   | exact ih0 _ _ _
   | exact nat_rights_1.mono _ _
   | exact LeO.none _
   | refine LeO.ite ?_ ?_
   | refine LeO.bind ?_ (fun _ => ?_)
theorem slices_IndexFunc_129_with_nat_rights_1.mono : ∀ a0 k, LeO (slices_IndexFunc_129_with_nat_rights_1.f k a0) (slices_IndexFunc_129_with_nat_rights_1.f (k + 1) a0) := by
 intro a0 k
 have ih0 := slices_IndexFunc_129_with_nat_rights_1.mono_l k
 unfold slices_IndexFunc_129_with_nat_rights_1.f
 repeat' first
   | (with_reducible exact ih0 _ _ _)
   | (with_reducible exact nat_rights_1.mono _ _)
   | (with_reducible exact LeO.refl _)
   | (with_reducible exact LeO.none _)
   | (with_reducible refine LeO.ite ?_ ?_)
   | (with_reducible refine LeO.bind ?_ (fun _ => ?_))
   | exact ih0 _ _ _
   | exact nat_rights_1.mono _ _
   | exact LeO.none _
   | refine LeO.ite ?_ ?_
   | refine LeO.bind ?_ (fun _ => ?_)
set_option maxHeartbeats 8000000 in
set_option maxRecDepth 100000 in
theorem slices_IndexFunc_129_with_nat_rights_1.calls (k : Nat) (A0 : Option Addr) (c0 : Nat) (l0 : List (List Int)) (r : Int) (w : World) (hr0 : Kd.C (Kd.slice 89 (Kd.int .u32)) w A0 l0.length l0) (hc0 : l0.length ≤ c0) (h : slices_IndexFunc_129_with_nat_rights_1.f k l0 = some r) :
  Calls Tryz.prog 129 #[.slice A0 l0.length c0, .func (.func 121) #[] #[]] w fun e w' => e = .returned (.int .i64 r) ∧ Below w.heap.size w w' := by
 have HR0 := Aside0.mk hr0
 have HC0 := Aside0.mk hc0
 clear hr0 hc0
 have HB := Aside0.mk (Below.refl w.heap.size w)
 have H : (slices_IndexFunc_129_with_nat_rights_1.l0 k l0 (l0.length : Int) 0) = some r := h
 clear h
 have H' := Aside0.mk H
 clear H
 go_enter Tryz.func129, Tryz.ntmps129
 go_wp2
 go_loopg [8] k (fun kq v8 w' => ∃ (x8_1 : Int), v8 = .int .i64 x8_1 ∧ Aside0 (slices_IndexFunc_129_with_nat_rights_1.l0 kq l0 (l0.length : Int) x8_1 = some r) ∧ Aside0 (kq ≤ k) ∧ Aside0 (Below w.heap.size w w'))
 case atStart => exact ⟨(0), (by first | rfl | (simp; done) | (simp [*]; done)), H', ⟨Nat.le_refl _⟩, ⟨(qs HB)⟩⟩
 case round =>
  clear H'
  obtain ⟨x8_1, rfl, HA, HK1, HB⟩ := hrel
  cases gk with
  | zero => exact absurd HA.out (by simp [slices_IndexFunc_129_with_nat_rights_1.l0])
  | succ k1 =>
   have H := HA.out
   clear HA
   simp only [slices_IndexFunc_129_with_nat_rights_1.l0] at H
   by_cases c2 : x8_1 < (l0.length : Int)
   ·rw [if_pos c2] at H
    have c2b0 : decide (x8_1 < (l0.length : Int)) = true := decide_eq_true c2
    clear c2
    by_cases c3 : 0 ≤ x8_1
    ·rw [if_pos c3] at H
     have c3b0 : decide (0 ≤ x8_1) = true := decide_eq_true c3
     clear c3
     by_cases c4 : x8_1 < (l0.length : Int)
     ·rw [if_pos c4] at H
      have c4b0 : decide (x8_1 < (l0.length : Int)) = true := decide_eq_true c4
      clear c4
      replace H := Option.bind_eq_some_iff.mp H
      obtain ⟨t134, A50, H⟩ := H
      try dsimp only at H
      have A5 := Aside0.mk A50
      clear A50
      by_cases c6 : t134 = true
      ·subst c6
       have H1 : (some x8_1) = some r := by rw [if_pos rfl] at H; exact H
       clear H
       have H := H1
       clear H1
       obtain rfl := Option.some.inj H
       have p133 : 0 ≤ (x8_1 : Int) := of_decide_eq_true qa
       have q133 : x8_1 < (l0.length : Int) := of_decide_eq_true qa
       obtain ⟨ad133, A133_0, c133_0, e133, hx133_0, hl133_0, hi133_0⟩ := at_L2 HR0.out x8_1 p133 q133
       cases e133
       replace hx133_0 := (HB.out.cell (World.block_lt_of_cell? w _ hx133_0)).trans hx133_0
       have HR133_0 := Aside0.mk hi133_0
       have HC133_0 := Aside0.mk hl133_0
       clear hi133_0 hl133_0
       replace p133 := eq_true p133
       replace q133 := eq_true q133
       go_wp2_with (first | ((with_reducible refine gate_calleeT (j := 11) rfl ?_); refine goesT_ (some 16) rfl rfl Tryz.func121 (by kernel_rfl) rfl #[.slice A133_0 (rd_L2 l0 x8_1).length c133_0] rfl rfl ql ?_; (with_reducible refine (nat_rights_1.calls k1 _ _ (rd_L2 l0 x8_1) true _ ?side1 ?side2 A5.out).mono ?_); (case side1 => repeat (first | exact (Kd.C_below HR133_0.out HB.out) | (with_reducible refine Kd.C_alloc ?_ _) | (with_reducible refine Kd.C_drewN ?_ _) | (with_reducible refine Kd.C_drew ?_))); (case side2 => exact HC133_0.out); rintro e w7 ⟨rfl, hb⟩; refine ⟨_, rfl, ?_⟩; replace HB := Aside0.mk (below_step (qs HB) hb); (try clear hb); (try clear hb2); (try clear hk); (try clear hi)))
       go_ret
       exact ⟨by first | rfl | (simp [errW_none, errW_some] <;> rfl) | (simp [*, errW_none, errW_some] <;> rfl), (qs HB)⟩
      ·replace c6 := Bool.eq_false_iff.mpr c6
       subst c6
       have H1 : (slices_IndexFunc_129_with_nat_rights_1.l0 k1 l0 (l0.length : Int) (wrap64 (x8_1 + 1))) = some r := by rw [if_neg (show ¬ (false = true) by decide)] at H; exact H
       clear H
       have H := H1
       clear H1
       have H' := Aside0.mk H
       clear H
       have p133 : 0 ≤ (x8_1 : Int) := of_decide_eq_true qa
       have q133 : x8_1 < (l0.length : Int) := of_decide_eq_true qa
       obtain ⟨ad133, A133_0, c133_0, e133, hx133_0, hl133_0, hi133_0⟩ := at_L2 HR0.out x8_1 p133 q133
       cases e133
       replace hx133_0 := (HB.out.cell (World.block_lt_of_cell? w _ hx133_0)).trans hx133_0
       have HR133_0 := Aside0.mk hi133_0
       have HC133_0 := Aside0.mk hl133_0
       clear hi133_0 hl133_0
       replace p133 := eq_true p133
       replace q133 := eq_true q133
       go_wp2_with (first | ((with_reducible refine gate_calleeT (j := 11) rfl ?_); refine goesT_ (some 16) rfl rfl Tryz.func121 (by kernel_rfl) rfl #[.slice A133_0 (rd_L2 l0 x8_1).length c133_0] rfl rfl ql ?_; (with_reducible refine (nat_rights_1.calls k1 _ _ (rd_L2 l0 x8_1) false _ ?side1 ?side2 A5.out).mono ?_); (case side1 => repeat (first | exact (Kd.C_below HR133_0.out HB.out) | (with_reducible refine Kd.C_alloc ?_ _) | (with_reducible refine Kd.C_drewN ?_ _) | (with_reducible refine Kd.C_drew ?_))); (case side2 => exact HC133_0.out); rintro e w8 ⟨rfl, hb⟩; refine ⟨_, rfl, ?_⟩; replace HB := Aside0.mk (below_step (qs HB) hb); (try clear hb); (try clear hb2); (try clear hk); (try clear hi)))
       go_roundg k1
       case measure => have := HK1.out; omega
       case rel => exact ⟨(wrap64 (x8_1 + 1)), (by first | rfl | (simp; done) | (simp [*]; done)), H', ⟨by have := HK1.out; omega⟩, ⟨(qs HB)⟩⟩
     ·rw [if_neg c4] at H
      exact absurd H (by simp)
    ·rw [if_neg c3] at H
     exact absurd H (by simp)
   ·rw [if_neg c2] at H
    have c2b0 : decide (x8_1 < (l0.length : Int)) = false := decide_eq_false c2
    clear c2
    obtain rfl := Option.some.inj H
    go_wp2
    go_ret
    exact ⟨by first | rfl | (simp [errW_none, errW_some] <;> rfl) | (simp [*, errW_none, errW_some] <;> rfl), (qs HB)⟩
def slices_ContainsFunc_120_with_nat_rights_1.f (k : Nat) (l0 : List (List Int)) : Option (Bool) := (slices_IndexFunc_129_with_nat_rights_1.f k l0).bind fun t135 => (some (decide (t135 ≥ 0)))
theorem slices_ContainsFunc_120_with_nat_rights_1.mono : ∀ a0 k, LeO (slices_ContainsFunc_120_with_nat_rights_1.f k a0) (slices_ContainsFunc_120_with_nat_rights_1.f (k + 1) a0) := by
  intro a0 k
  unfold slices_ContainsFunc_120_with_nat_rights_1.f
  repeat' first
      | (with_reducible exact slices_IndexFunc_129_with_nat_rights_1.mono _ _)
      | (with_reducible exact LeO.refl _)
      | (with_reducible exact LeO.none _)
      | (with_reducible refine LeO.ite ?_ ?_)
      | (with_reducible refine LeO.bind ?_ (fun _ => ?_))
      | exact slices_IndexFunc_129_with_nat_rights_1.mono _ _
      | exact LeO.none _
      | refine LeO.ite ?_ ?_
      | refine LeO.bind ?_ (fun _ => ?_)
set_option maxHeartbeats 8000000 in
set_option maxRecDepth 100000 in
theorem slices_ContainsFunc_120_with_nat_rights_1.calls (k : Nat) (A0 : Option Addr) (c0 : Nat) (l0 : List (List Int)) (r : Bool) (w : World) (hr0 : Kd.C (Kd.slice 89 (Kd.int .u32)) w A0 l0.length l0) (hc0 : l0.length ≤ c0) (h : slices_ContainsFunc_120_with_nat_rights_1.f k l0 = some r) :
    Calls Tryz.prog 120 #[.slice A0 l0.length c0, .func (.func 121) #[] #[]] w fun e w' => e = .returned (.bool r) ∧ Below w.heap.size w w' := by
  have HR0 := Aside0.mk hr0
  have HC0 := Aside0.mk hc0
  clear hr0 hc0
  have HB := Aside0.mk (Below.refl w.heap.size w)
  have H : ((slices_IndexFunc_129_with_nat_rights_1.f k l0).bind fun t135 => (some (decide (t135 ≥ 0)))) = some r := h
  clear h
  replace H := Option.bind_eq_some_iff.mp H
  obtain ⟨t135, A20, H⟩ := H
  try dsimp only at H
  have A2 := Aside0.mk A20
  clear A20
  obtain rfl := Option.some.inj H
  go_enter Tryz.func120, Tryz.ntmps120
  go_wp2_with (first | ((with_reducible refine gate_callee (f := 129) rfl ?_); refine goesL_ (some 7) rfl rfl Tryz.func129 (by kernel_rfl) rfl #[.slice A0 l0.length c0, .func (.func 121) #[] #[]] rfl ql ?_; (with_reducible refine (slices_IndexFunc_129_with_nat_rights_1.calls k _ _ l0 t135 _ ?side1 ?side2 A2.out).mono ?_); (case side1 => repeat (first | exact HR0.out | (with_reducible refine Kd.C_alloc ?_ _) | (with_reducible refine Kd.C_drewN ?_ _) | (with_reducible refine Kd.C_drew ?_))); (case side2 => exact HC0.out); rintro e w3 ⟨rfl, hb⟩; refine ⟨_, rfl, ?_⟩; replace HB := Aside0.mk (below_step (qs HB) hb); (try clear hb); (try clear hb2); (try clear hk); (try clear hi)))
  go_ret
  exact ⟨by first | rfl | (simp [errW_none, errW_some] <;> rfl) | (simp [*, errW_none, errW_some] <;> rfl), (qs HB)⟩
def nat_rights.f (k : Nat) (l0 : List (List Int)) : Option (Bool) := (slices_ContainsFunc_120_with_nat_rights_1.f k l0).bind fun t136 => (some (!t136))
theorem nat_rights.mono : ∀ a0 k, LeO (nat_rights.f k a0) (nat_rights.f (k + 1) a0) := by
  intro a0 k
  unfold nat_rights.f
  repeat' first
      | (with_reducible exact slices_ContainsFunc_120_with_nat_rights_1.mono _ _)
      | (with_reducible exact LeO.refl _)
      | (with_reducible exact LeO.none _)
      | (with_reducible refine LeO.ite ?_ ?_)
      | (with_reducible refine LeO.bind ?_ (fun _ => ?_))
      | exact slices_ContainsFunc_120_with_nat_rights_1.mono _ _
      | exact LeO.none _
      | refine LeO.ite ?_ ?_
      | refine LeO.bind ?_ (fun _ => ?_)
set_option maxHeartbeats 8000000 in
set_option maxRecDepth 100000 in
theorem nat_rights.calls (k : Nat) (A0 : Option Addr) (c0 : Nat) (l0 : List (List Int)) (r : Bool) (w : World) (hr0 : Kd.C (Kd.slice 89 (Kd.int .u32)) w A0 l0.length l0) (hc0 : l0.length ≤ c0) (h : nat_rights.f k l0 = some r) :
    Calls Tryz.prog 107 #[.slice A0 l0.length c0] w fun e w' => e = .returned (.bool r) ∧ Below w.heap.size w w' := by
  have HR0 := Aside0.mk hr0
  have HC0 := Aside0.mk hc0
  clear hr0 hc0
  have HB := Aside0.mk (Below.refl w.heap.size w)
  have H : ((slices_ContainsFunc_120_with_nat_rights_1.f k l0).bind fun t136 => (some (!t136))) = some r := h
  clear h
  replace H := Option.bind_eq_some_iff.mp H
  obtain ⟨t136, A20, H⟩ := H
  try dsimp only at H
  have A2 := Aside0.mk A20
  clear A20
  obtain rfl := Option.some.inj H
  go_enter Tryz.func107, Tryz.ntmps107
  go_wp2_with (first | ((with_reducible refine gate_callee (f := 120) rfl ?_); refine goesL_ (some 4) rfl rfl Tryz.func120 (by kernel_rfl) rfl #[.slice A0 l0.length c0, .func (.func 121) #[] #[]] rfl ql ?_; (with_reducible refine (slices_ContainsFunc_120_with_nat_rights_1.calls k _ _ l0 t136 _ ?side1 ?side2 A2.out).mono ?_); (case side1 => repeat (first | exact HR0.out | (with_reducible refine Kd.C_alloc ?_ _) | (with_reducible refine Kd.C_drewN ?_ _) | (with_reducible refine Kd.C_drew ?_))); (case side2 => exact HC0.out); rintro e w3 ⟨rfl, hb⟩; refine ⟨_, rfl, ?_⟩; replace HB := Aside0.mk (below_step (qs HB) hb); (try clear hb); (try clear hb2); (try clear hk); (try clear hi)))
  go_ret
  exact ⟨by first | rfl | (simp [errW_none, errW_some] <;> rfl) | (simp [*, errW_none, errW_some] <;> rfl), (qs HB)⟩
mutual
def nat_product.l0 : Nat → List Int → List Int → List Int → Int → Int → Option (List Int)
 | 0, _, _, _, _, _ => none
 | k + 1, x1, x5, x17, x18, x19 => if x19 < x18 then (if 0 ≤ x19 then (if x19 < (x17.length : Int) then (nat_product.l1 k x1 x5 x19 (rd x17 x19) 0 x17 x18 x19 x1 (x1.length : Int) 0) else (none)) else (none)) else ((nat_trim.f k x5).bind fun t140 => (some t140))
def nat_product.l1 : Nat → List Int → List Int → Int → Int → Int → List Int → Int → Int → List Int → Int → Int → Option (List Int)
 | 0, _, _, _, _, _, _, _, _, _, _, _ => none
 | k + 1, x1, x5, x6, x7, x8, x17, x18, x19, x24, x25, x26 => if x26 < x25 then (if 0 ≤ x26 then (if x26 < (x24.length : Int) then (if 0 ≤ (wrap64 (x6 + x26)) then (if (wrap64 (x6 + x26)) < (x5.length : Int) then (nat_product.l1 k x1 (x5.set ((wrap64 (x6 + x26)) : Int).toNat ((IntKind.u64.wrap (x8 + (IntKind.u64.wrap ((IntKind.u64.wrap ((IntKind.u64.wrap (x7)) * (IntKind.u64.wrap (rd x24 x26)))) + (IntKind.u64.wrap (rd x5 (wrap64 (x6 + x26)))))))) % 4294967296)) x6 x7 ((IntKind.u64.wrap (x8 + (IntKind.u64.wrap ((IntKind.u64.wrap ((IntKind.u64.wrap (x7)) * (IntKind.u64.wrap (rd x24 x26)))) + (IntKind.u64.wrap (rd x5 (wrap64 (x6 + x26)))))))) / 4294967296) x17 x18 x19 x24 x25 (wrap64 (x26 + 1))) else (none)) else (none)) else (none)) else (none)) else (if 0 ≤ (wrap64 (x6 + (x1.length : Int))) then (if (wrap64 (x6 + (x1.length : Int))) < (x5.length : Int) then (nat_product.l0 k x1 (x5.set ((wrap64 (x6 + (x1.length : Int))) : Int).toNat ((x8) % 4294967296)) x17 x18 (wrap64 (x19 + 1))) else (none)) else (none))
end
def nat_product.f (k : Nat) (l0 : List Int) (l1 : List Int) : Option (List Int) := if 0 ≤ (wrap64 ((l0.length : Int) + (l1.length : Int))) then (if (wrap64 ((l0.length : Int) + (l1.length : Int)) : Int).toNat ≤ 70368744177664 then (nat_product.l0 k l1 (List.replicate (wrap64 ((l0.length : Int) + (l1.length : Int)) : Int).toNat 0) l0 (l0.length : Int) 0) else (none)) else (none)
theorem nat_product.mono_l : ∀ k, (∀ y0 y1 y2 y3 y4, LeO (nat_product.l0 k y0 y1 y2 y3 y4) (nat_product.l0 (k + 1) y0 y1 y2 y3 y4)) ∧ (∀ y0 y1 y2 y3 y4 y5 y6 y7 y8 y9 y10, LeO (nat_product.l1 k y0 y1 y2 y3 y4 y5 y6 y7 y8 y9 y10) (nat_product.l1 (k + 1) y0 y1 y2 y3 y4 y5 y6 y7 y8 y9 y10))
 | 0 => ⟨fun _ _ _ _ _ r h => by simp [nat_product.l0] at h, fun _ _ _ _ _ _ _ _ _ _ _ r h => by simp [nat_product.l1] at h⟩
 | k + 1 => by
  obtain ⟨ih0, ih1⟩ := nat_product.mono_l k
  refine ⟨?_, ?_⟩
  ·intro y0 y1 y2 y3 y4
   unfold nat_product.l0
   repeat' first
   | (with_reducible exact ih0 _ _ _ _ _)
   | (with_reducible exact ih1 _ _ _ _ _ _ _ _ _ _ _)
   | (with_reducible exact nat_trim.mono _ _)
   | (with_reducible exact LeO.refl _)
   | (with_reducible exact LeO.none _)
   | (with_reducible refine LeO.ite ?_ ?_)
   | (with_reducible refine LeO.bind ?_ (fun _ => ?_))
   | exact ih0 _ _ _ _ _
   | exact ih1 _ _ _ _ _ _ _ _ _ _ _
   | exact nat_trim.mono _ _
   | exact LeO.none _
   | refine LeO.ite ?_ ?_
   | refine LeO.bind ?_ (fun _ => ?_)
  ·intro y0 y1 y2 y3 y4 y5 y6 y7 y8 y9 y10
   unfold nat_product.l1
   repeat' first
   | (with_reducible exact ih0 _ _ _ _ _)
   | (with_reducible exact ih1 _ _ _ _ _ _ _ _ _ _ _)
   | (with_reducible exact nat_trim.mono _ _)
   | (with_reducible exact LeO.refl _)
   | (with_reducible exact LeO.none _)
   | (with_reducible refine LeO.ite ?_ ?_)
   | (with_reducible refine LeO.bind ?_ (fun _ => ?_))
   | exact ih0 _ _ _ _ _
   | exact ih1 _ _ _ _ _ _ _ _ _ _ _
   | exact nat_trim.mono _ _
   | exact LeO.none _
   | refine LeO.ite ?_ ?_
   | refine LeO.bind ?_ (fun _ => ?_)
theorem nat_product.mono : ∀ a0 a1 k, LeO (nat_product.f k a0 a1) (nat_product.f (k + 1) a0 a1) := by
 intro a0 a1 k
 obtain ⟨ih0, ih1⟩ := nat_product.mono_l k
 unfold nat_product.f
 repeat' first
   | (with_reducible exact ih0 _ _ _ _ _)
   | (with_reducible exact ih1 _ _ _ _ _ _ _ _ _ _ _)
   | (with_reducible exact nat_trim.mono _ _)
   | (with_reducible exact LeO.refl _)
   | (with_reducible exact LeO.none _)
   | (with_reducible refine LeO.ite ?_ ?_)
   | (with_reducible refine LeO.bind ?_ (fun _ => ?_))
   | exact ih0 _ _ _ _ _
   | exact ih1 _ _ _ _ _ _ _ _ _ _ _
   | exact nat_trim.mono _ _
   | exact LeO.none _
   | refine LeO.ite ?_ ?_
   | refine LeO.bind ?_ (fun _ => ?_)
set_option maxHeartbeats 8000000 in
set_option maxRecDepth 100000 in
theorem nat_product.calls (k : Nat) (A0 : Option Addr) (c0 : Nat) (l0 : List Int) (A1 : Option Addr) (c1 : Nat) (l1 : List Int) (r : List Int) (w : World) (hr0 : Kd.C (Kd.int .u32) w A0 l0.length l0) (hc0 : l0.length ≤ c0) (hr1 : Kd.C (Kd.int .u32) w A1 l1.length l1) (hc1 : l1.length ≤ c1) (h : nat_product.f k l0 l1 = some r) :
  Calls Tryz.prog 118 #[.slice A0 l0.length c0, .slice A1 l1.length c1] w fun e w' => ∃ v0_ : Value, e = .returned (v0_) ∧ Kd.V (Kd.int .u32) 89 w' w.heap.size (fun k_ => (w.heap.size ≤ k_)) v0_ r ∧ Below w.heap.size w w' := by
 have HR0 := Aside0.mk hr0
 have HC0 := Aside0.mk hc0
 clear hr0 hc0
 have HR1 := Aside0.mk hr1
 have HC1 := Aside0.mk hc1
 clear hr1 hc1
 have HB := Aside0.mk (Below.refl w.heap.size w)
 have H : (if 0 ≤ (wrap64 ((l0.length : Int) + (l1.length : Int))) then (if (wrap64 ((l0.length : Int) + (l1.length : Int)) : Int).toNat ≤ 70368744177664 then (nat_product.l0 k l1 (List.replicate (wrap64 ((l0.length : Int) + (l1.length : Int)) : Int).toNat 0) l0 (l0.length : Int) 0) else (none)) else (none)) = some r := h
 clear h
 obtain ⟨ji3, hji3⟩ : ∃ j_ : Int, (wrap64 ((l0.length : Int) + (l1.length : Int))) = j_ := ⟨_, rfl⟩
 replace H : (if 0 ≤ (ji3) then (if (ji3 : Int).toNat ≤ 70368744177664 then (nat_product.l0 k l1 (List.replicate (ji3 : Int).toNat 0) l0 (l0.length : Int) 0) else (none)) else (none)) = some r := by first | (rw [hji3] at H; exact H) | (simp only [hji3] at H ⊢; exact H)
 have hji3w : (IntKind.i64.wrap ((l0.length : Int) + (l1.length : Int))) = ji3 := (i64_w _).trans hji3
 by_cases c4 : 0 ≤ (ji3)
 ·rw [if_pos c4] at H
  have c4b0 := eq_true c4
  have c4b1 : decide (0 ≤ (ji3)) = true := decide_eq_true c4
  clear c4
  by_cases c5 : (ji3 : Int).toNat ≤ 70368744177664
  ·rw [if_pos c5] at H
   have c5b0 := eq_true c5
   have c5b1 : decide ((ji3 : Int).toNat ≤ 70368744177664) = true := decide_eq_true c5
   clear c5
   obtain ⟨y137, hy137⟩ : ∃ y_ : List Int, y_ = (List.replicate (ji3 : Int).toNat 0) := ⟨_, rfl⟩
   replace H : (nat_product.l0 k l1 y137 l0 (l0.length : Int) 0) = some r := by first | (rw [hy137]; with_reducible exact H) | (have H2_ := (Option.bind_some _ _).symm.trans H; rw [hy137]; with_reducible exact H2_) | (have H2_ := (Option.bind_some _ _).symm.trans H; with_reducible exact H2_) | with_reducible exact H | (rw [hy137]; exact H) | exact H
   have Ny137 := Aside0.mk hy137
   clear hy137
   have H' := Aside0.mk H
   clear H
   go_enter Tryz.func118, Tryz.ntmps118
   try simp only [List.append]
   go_wp2_with (first | ((with_reducible refine qd 16 ?_); refine Kd.R_make (Kd.int .u32) _ 89 rfl (N := 16) rfl 44 _ _ rfl ji3 rfl rfl Tryz.underlying44 (.int .u32 0) 4 info89 rfl (by decide) (by omega) 0 (ok := fun _ => True) (okp := fun _ => True) rfl (fun _ hk => hk) trivial qo (Nat.le_trans (Nat.mul_le_mul_right _ (of_decide_eq_true qa : ji3.toNat ≤ 70368744177664)) (by omega)) (Below.refl _ _) (Nat.le_refl _) ?_; intro v138 w6 ho7 hb hg_ hnew_; clear hg_ hnew_; (first | rw [← Ny137.out] at ho7 | (simp only [Int.reduceToNat] at ho7; rw [← Ny137.out] at ho7)); have HO139 := Aside0.mk (Kd.R_lower (Kd.R_newM (M := fun k_ => (w.heap.size ≤ k_)) ho7 (below_size (qs HB)) (fun k_ h_ => h_)) (below_size (qs HB))); replace HB := Aside0.mk (below_step (qs HB) hb); clear hb ho7))
   go_loopg [19] k (fun kq v19 w' => ∃ (x5_1 : List Int) (x19_1 : Int), v19 = .int .i64 x19_1 ∧ Aside0 (nat_product.l0 kq l1 x5_1 l0 (l0.length : Int) x19_1 = some r) ∧ Aside0 (kq ≤ k) ∧ Aside0 (Kd.R (Kd.int .u32) 89 w' w.heap.size (fun k_ => (w.heap.size ≤ k_)) v138 x5_1) ∧ Aside0 (Below w.heap.size w w'))
   case atStart => exact ⟨(y137), (0), (by first | rfl | (simp; done) | (simp [*]; done)), H', ⟨Nat.le_refl _⟩, ⟨by (with_reducible repeat (first | apply Kd.R_alloc | apply Kd.R_drewN | apply Kd.R_drew)); exact Kd.R_mono HO139.out (fun _ hk => hk.1)⟩, ⟨(qs HB)⟩⟩
   case round =>
    clear H'
    try clear c1
    try clear p2
    try clear c4
    try clear c4b0
    try clear c4b1
    try clear c5
    try clear c5b0
    try clear c5b1
    try clear p6
    obtain ⟨x5_1, x19_1, rfl, HA, HK1, HO_5, HB⟩ := hrel
    cases gk with
    | zero => exact absurd HA.out (by simp [nat_product.l0])
    | succ k1 =>
     have H := HA.out
     clear HA
     simp only [nat_product.l0] at H
     by_cases c8 : x19_1 < (l0.length : Int)
     ·rw [if_pos c8] at H
      have c8b0 : decide (x19_1 < (l0.length : Int)) = true := decide_eq_true c8
      clear c8
      by_cases c9 : 0 ≤ x19_1
      ·rw [if_pos c9] at H
       have c9b0 : decide (0 ≤ x19_1) = true := decide_eq_true c9
       clear c9
       by_cases c10 : x19_1 < (l0.length : Int)
       ·rw [if_pos c10] at H
        have c10b0 : decide (x19_1 < (l0.length : Int)) = true := decide_eq_true c10
        clear c10
        have H' := Aside0.mk H
        clear H
        have p143 : 0 ≤ (x19_1 : Int) := of_decide_eq_true qa
        have q143 : x19_1 < (l0.length : Int) := of_decide_eq_true qa
        obtain ⟨ad143, e143, hx143_0⟩ := Kd.at_int HR0.out x19_1 p143 q143
        cases e143
        replace hx143_0 := (HB.out.cell (World.block_lt_of_cell? w _ hx143_0)).trans hx143_0
        replace p143 := eq_true p143
        replace q143 := eq_true q143
        go_wp2
        go_loopg [8, 26] k1 (fun kq v8 v26 w' => ∃ (x5_2 : List Int) (x8_2 : Int) (x26_2 : Int), v8 = .int .u64 x8_2 ∧ v26 = .int .i64 x26_2 ∧ Aside0 (nat_product.l1 kq l1 x5_2 x19_1 (rd l0 x19_1) x8_2 l0 (l0.length : Int) x19_1 l1 (l1.length : Int) x26_2 = some r) ∧ Aside0 (kq ≤ k1) ∧ Aside0 (Kd.R (Kd.int .u32) 89 w' w.heap.size (fun k_ => (w.heap.size ≤ k_)) v138 x5_2) ∧ Aside0 (Below w.heap.size w w'))
        case atStart => exact ⟨(x5_1), (0), (0), (by first | rfl | (simp; done) | (simp [*]; done)), (by first | rfl | (simp; done) | (simp [*]; done)), H', ⟨Nat.le_refl _⟩, ⟨(qr HO_5)⟩, ⟨(qs HB)⟩⟩
        case round =>
         clear H'
         try clear c1
         try clear p1
         try clear q1
         try clear hx1
         try clear p2
         try clear c4
         try clear c4b0
         try clear c4b1
         try clear c5
         try clear c5b0
         try clear c5b1
         try clear p6
         try clear c8
         try clear c8b0
         try clear c9
         try clear c9b0
         try clear c10
         try clear c10b0
         try clear hx143_0
         try clear p143
         try clear p2
         try clear p6
         try clear q143
         obtain ⟨x5_2, x8_2, x26_2, rfl, rfl, HA, HK2, HO_5, HB⟩ := hrel
         cases gk with
         | zero => exact absurd HA.out (by simp [nat_product.l1])
         | succ k2 =>
          have H := HA.out
          clear HA
          simp only [nat_product.l1] at H
          by_cases c11 : x26_2 < (l1.length : Int)
          ·rw [if_pos c11] at H
           have c11b0 : decide (x26_2 < (l1.length : Int)) = true := decide_eq_true c11
           clear c11
           by_cases c12 : 0 ≤ x26_2
           ·rw [if_pos c12] at H
            have c12b0 : decide (0 ≤ x26_2) = true := decide_eq_true c12
            clear c12
            by_cases c13 : x26_2 < (l1.length : Int)
            ·rw [if_pos c13] at H
             have c13b0 : decide (x26_2 < (l1.length : Int)) = true := decide_eq_true c13
             clear c13
             obtain ⟨ji14, hji14⟩ : ∃ j_ : Int, (wrap64 (x19_1 + x26_2)) = j_ := ⟨_, rfl⟩
             replace H : (if 0 ≤ (ji14) then (if (ji14) < (x5_2.length : Int) then (nat_product.l1 k2 l1 (x5_2.set ((ji14) : Int).toNat ((IntKind.u64.wrap (x8_2 + (IntKind.u64.wrap ((IntKind.u64.wrap ((IntKind.u64.wrap ((rd l0 x19_1))) * (IntKind.u64.wrap (rd l1 x26_2)))) + (IntKind.u64.wrap (rd x5_2 (ji14))))))) % 4294967296)) x19_1 (rd l0 x19_1) ((IntKind.u64.wrap (x8_2 + (IntKind.u64.wrap ((IntKind.u64.wrap ((IntKind.u64.wrap ((rd l0 x19_1))) * (IntKind.u64.wrap (rd l1 x26_2)))) + (IntKind.u64.wrap (rd x5_2 (ji14))))))) / 4294967296) l0 (l0.length : Int) x19_1 l1 (l1.length : Int) (wrap64 (x26_2 + 1))) else (none)) else (none)) = some r := by first | (rw [hji14] at H; exact H) | (simp only [hji14] at H ⊢; exact H)
             have hji14w : (IntKind.i64.wrap (x19_1 + x26_2)) = ji14 := (i64_w _).trans hji14
             by_cases c15 : 0 ≤ (ji14)
             ·rw [if_pos c15] at H
              have c15b0 : decide (0 ≤ (ji14)) = true := decide_eq_true c15
              clear c15
              by_cases c16 : (ji14) < (x5_2.length : Int)
              ·rw [if_pos c16] at H
               have c16b0 : decide ((ji14) < (x5_2.length : Int)) = true := decide_eq_true c16
               clear c16
               obtain ⟨y146, hy146⟩ : ∃ y_ : List Int, y_ = (x5_2.set ((ji14) : Int).toNat ((IntKind.u64.wrap (x8_2 + (IntKind.u64.wrap ((IntKind.u64.wrap ((IntKind.u64.wrap ((rd l0 x19_1))) * (IntKind.u64.wrap (rd l1 x26_2)))) + (IntKind.u64.wrap (rd x5_2 (ji14))))))) % 4294967296)) := ⟨_, rfl⟩
               replace H : (nat_product.l1 k2 l1 y146 x19_1 (rd l0 x19_1) ((IntKind.u64.wrap (x8_2 + (IntKind.u64.wrap ((IntKind.u64.wrap ((IntKind.u64.wrap ((rd l0 x19_1))) * (IntKind.u64.wrap (rd l1 x26_2)))) + (IntKind.u64.wrap (rd x5_2 (ji14))))))) / 4294967296) l0 (l0.length : Int) x19_1 l1 (l1.length : Int) (wrap64 (x26_2 + 1))) = some r := by first | (rw [hy146]; with_reducible exact H) | (have H2_ := (Option.bind_some _ _).symm.trans H; rw [hy146]; with_reducible exact H2_) | (have H2_ := (Option.bind_some _ _).symm.trans H; with_reducible exact H2_) | with_reducible exact H | (rw [hy146]; exact H) | exact H
               have Ny146 := Aside0.mk hy146
               clear hy146
               have H' := Aside0.mk H
               clear H
               have p144 : 0 ≤ (x26_2 : Int) := of_decide_eq_true qa
               have q144 : x26_2 < (l1.length : Int) := of_decide_eq_true qa
               obtain ⟨ad144, e144, hx144_0⟩ := Kd.at_int HR1.out x26_2 p144 q144
               cases e144
               replace hx144_0 := (HB.out.cell (World.block_lt_of_cell? w _ hx144_0)).trans hx144_0
               replace p144 := eq_true p144
               replace q144 := eq_true q144
               obtain ⟨Ao18, co18, eo18⟩ := Kd.R_slice HO_5.out
               subst eo18
               have p145 : 0 ≤ ((ji14) : Int) := of_decide_eq_true qa
               have q145 : (ji14) < (x5_2.length : Int) := of_decide_eq_true qa
               obtain ⟨ad145, e145, hx145_0⟩ := Kd.at_int (Kd.R_reads' HO_5.out).2.2 (ji14) p145 q145
               cases e145
               replace p145 := eq_true p145
               replace q145 := eq_true q145
               have p17 : 0 ≤ ((ji14) : Int) := of_decide_eq_true qa
               have q17 : ((ji14) : Int) < ((x5_2.length : Int) : Int) := of_decide_eq_true qa
               obtain ⟨go17, co17, eo17, gb17, gl17, cl17, HG17⟩ := Kd.R_form HO_5.out (by omega)
               (first | cases eo17 | (injection eo17 with ea_ en_ ec_; (first | subst ea_ | (injection ea_ with ea_; subst ea_)); subst ec_; clear en_))
               have GB17 := Aside0.mk gb17
               have GG17 := Aside0.mk HG17
               clear gb17 gl17 HG17
               (first | simp only [add_plain] at hx145_0 | skip)
               obtain ⟨hx17_0, hf17_0⟩ := Kd.R_celln 0 HO_5.out ((ji14) : Int) p17 q17
               replace p17 := eq_true p17
               replace q17 := eq_true q17
               have HP19 := Kd.R_putg HO_5.out ((ji14) : Int) ((IntKind.u64.wrap (x8_2 + (IntKind.u64.wrap ((IntKind.u64.wrap ((IntKind.u64.wrap ((rd l0 x19_1))) * (IntKind.u64.wrap (rd l1 x26_2)))) + (IntKind.u64.wrap (rd x5_2 (ji14))))))) % 4294967296)
               go_wp2_with (first | ((with_reducible refine gate_store (t := 89) (p := 52) rfl ?_); refine store_event (t := 89) (p := 52) (v := ?vo_w20) (w1 := (wr.setCell ⟨go17, ((ji14) : Int).toNat, none⟩ (.int .u32 ((IntKind.u64.wrap (x8_2 + (IntKind.u64.wrap ((IntKind.u64.wrap ((IntKind.u64.wrap ((rd l0 x19_1))) * (IntKind.u64.wrap (rd l1 x26_2)))) + (IntKind.u64.wrap (rd x5_2 (ji14))))))) % 4294967296)))) ?hg ?ho ?hn ?hr ?_; (case ho => rfl); (case hg => rfl); (case hn => rfl); (case hr => first | (go_simp; done) | (go_simp; rfl)); intro w20 hw; have hg : wr.grownBy w20 (some go17) := (by rw [hw]; exact HP19.2); have hp_ : Kd.R (Kd.int .u32) 89 w20 w.heap.size (fun k_ => (w.heap.size ≤ k_)) (.slice (some ⟨go17, 0, none⟩) x5_2.length co18) y146 := (by rw [hw, Ny146.out]; exact HP19.1); clear HP19; replace HO_5 := Aside0.mk (hp_); replace HB := Aside0.mk ((by rw [hw]; exact below_set (HB.out) GB17.out : Below w.heap.size w w20)); clear hg hw hp_))
               go_roundg k2
               case measure => have := HK1.out; have := HK2.out; omega
               case rel => exact ⟨(y146), ((IntKind.u64.wrap (x8_2 + (IntKind.u64.wrap ((IntKind.u64.wrap ((IntKind.u64.wrap ((rd l0 x19_1))) * (IntKind.u64.wrap (rd l1 x26_2)))) + (IntKind.u64.wrap (rd x5_2 (ji14))))))) / 4294967296), (wrap64 (x26_2 + 1)), (by first | rfl | (simp; done) | (simp only [← hji14] <;> (first | rfl | simp)) | (simp [*]; done)), (by first | rfl | (simp; done) | (simp [*]; done)), H', ⟨by have := HK1.out; have := HK2.out; omega⟩, ⟨(qr HO_5)⟩, ⟨(qs HB)⟩⟩
              ·rw [if_neg c16] at H
               exact absurd H (by simp)
             ·rw [if_neg c15] at H
              exact absurd H (by simp)
            ·rw [if_neg c13] at H
             exact absurd H (by simp)
           ·rw [if_neg c12] at H
            exact absurd H (by simp)
          ·rw [if_neg c11] at H
           have c11b0 : decide (x26_2 < (l1.length : Int)) = false := decide_eq_false c11
           clear c11
           obtain ⟨ji21, hji21⟩ : ∃ j_ : Int, (wrap64 (x19_1 + (l1.length : Int))) = j_ := ⟨_, rfl⟩
           replace H : (if 0 ≤ (ji21) then (if (ji21) < (x5_2.length : Int) then (nat_product.l0 k2 l1 (x5_2.set ((ji21) : Int).toNat ((x8_2) % 4294967296)) l0 (l0.length : Int) (wrap64 (x19_1 + 1))) else (none)) else (none)) = some r := by first | (rw [hji21] at H; exact H) | (simp only [hji21] at H ⊢; exact H)
           have hji21w : (IntKind.i64.wrap (x19_1 + (l1.length : Int))) = ji21 := (i64_w _).trans hji21
           by_cases c22 : 0 ≤ (ji21)
           ·rw [if_pos c22] at H
            have c22b0 : decide (0 ≤ (ji21)) = true := decide_eq_true c22
            clear c22
            by_cases c23 : (ji21) < (x5_2.length : Int)
            ·rw [if_pos c23] at H
             have c23b0 : decide ((ji21) < (x5_2.length : Int)) = true := decide_eq_true c23
             clear c23
             obtain ⟨y147, hy147⟩ : ∃ y_ : List Int, y_ = (x5_2.set ((ji21) : Int).toNat ((x8_2) % 4294967296)) := ⟨_, rfl⟩
             replace H : (nat_product.l0 k2 l1 y147 l0 (l0.length : Int) (wrap64 (x19_1 + 1))) = some r := by first | (rw [hy147]; with_reducible exact H) | (have H2_ := (Option.bind_some _ _).symm.trans H; rw [hy147]; with_reducible exact H2_) | (have H2_ := (Option.bind_some _ _).symm.trans H; with_reducible exact H2_) | with_reducible exact H | (rw [hy147]; exact H) | exact H
             have Ny147 := Aside0.mk hy147
             clear hy147
             have H' := Aside0.mk H
             clear H
             have p24 : 0 ≤ ((ji21) : Int) := of_decide_eq_true qa
             have q24 : ((ji21) : Int) < ((x5_2.length : Int) : Int) := of_decide_eq_true qa
             obtain ⟨go24, co24, eo24, gb24, gl24, cl24, HG24⟩ := Kd.R_form HO_5.out (by omega)
             (first | cases eo24 | (injection eo24 with ea_ en_ ec_; (first | subst ea_ | (injection ea_ with ea_; subst ea_)); subst ec_; clear en_))
             have GB24 := Aside0.mk gb24
             have GG24 := Aside0.mk HG24
             clear gb24 gl24 HG24
             obtain ⟨hx24_0, hf24_0⟩ := Kd.R_celln 0 HO_5.out ((ji21) : Int) p24 q24
             replace p24 := eq_true p24
             replace q24 := eq_true q24
             have HP25 := Kd.R_putg HO_5.out ((ji21) : Int) ((x8_2) % 4294967296)
             go_wp2_with (first | ((with_reducible refine gate_store (t := 89) (p := 63) rfl ?_); refine store_event (t := 89) (p := 63) (v := ?vo_w26) (w1 := (wr.setCell ⟨go24, ((ji21) : Int).toNat, none⟩ (.int .u32 ((x8_2) % 4294967296)))) ?hg ?ho ?hn ?hr ?_; (case ho => rfl); (case hg => rfl); (case hn => rfl); (case hr => first | (go_simp; done) | (go_simp; rfl)); intro w26 hw; have hg : wr.grownBy w26 (some go24) := (by rw [hw]; exact HP25.2); have hp_ : Kd.R (Kd.int .u32) 89 w26 w.heap.size (fun k_ => (w.heap.size ≤ k_)) (.slice (some ⟨go24, 0, none⟩) x5_2.length co24) y147 := (by rw [hw, Ny147.out]; exact HP25.1); clear HP25; replace HO_5 := Aside0.mk (hp_); replace HB := Aside0.mk ((by rw [hw]; exact below_set (HB.out) GB24.out : Below w.heap.size w w26)); clear hg hw hp_))
             go_roundg k2
             case measure => have := HK1.out; have := HK2.out; omega
             case rel => exact ⟨(y147), (wrap64 (x19_1 + 1)), (by first | rfl | (simp; done) | (simp [*]; done)), H', ⟨by have := HK1.out; have := HK2.out; omega⟩, ⟨(qr HO_5)⟩, ⟨(qs HB)⟩⟩
            ·rw [if_neg c23] at H
             exact absurd H (by simp)
           ·rw [if_neg c22] at H
            exact absurd H (by simp)
       ·rw [if_neg c10] at H
        exact absurd H (by simp)
      ·rw [if_neg c9] at H
       exact absurd H (by simp)
     ·rw [if_neg c8] at H
      have c8b0 : decide (x19_1 < (l0.length : Int)) = false := decide_eq_false c8
      clear c8
      replace H := Option.bind_eq_some_iff.mp H
      obtain ⟨t140, A270, H⟩ := H
      try dsimp only at H
      have A27 := Aside0.mk A270
      clear A270
      obtain rfl := Option.some.inj H
      obtain ⟨Ao28, co28, eo28⟩ := Kd.R_slice HO_5.out
      subst eo28
      go_wp2_with (first | ((with_reducible refine gate_callee (f := 109) rfl ?_); refine goesL_ (some 66) rfl rfl Tryz.func109 (by kernel_rfl) rfl #[.slice Ao28 x5_1.length co28] rfl ql ?_; (with_reducible refine (nat_trim.calls k1 (fun k_ => some k_ = (.slice Ao28 x5_1.length co28 : Value).ownBlock) _ _ x5_1 t140 _ ?side1 A27.out).mono ?_); (case side1 => exact Kd.R_V (Kd.R_tight rfl (HO_5.out))); rintro e w29 ⟨v141, rfl, ho0, hb⟩; refine ⟨_, rfl, ?_⟩; have HO142 := Aside0.mk (Kd.V_lower (Kd.V_mono (ok' := fun k_ => (w.heap.size ≤ k_)) ho0 (fun k_ hk_ => Or.elim hk_ (fun hs_ => ((HO_5.out).1 k_ hs_.symm)) (fun hn_ => (Nat.le_trans (below_size (qs HB)) hn_)))) (below_size (qs HB))); replace HO_5 := Aside0.mk (Kd.R_below (qr HO_5) hb); replace HB := Aside0.mk (below_step (qs HB) hb); (try clear hb); (try clear hb2); (try clear hk); (try clear hi); (try clear ho0)))
      go_ret
      exact ⟨_, by first | rfl | (simp [errW_none, errW_some] <;> rfl) | (simp only [← hji3]; first | rfl | (simp [errW_none, errW_some] <;> rfl)) | (simp [*, errW_none, errW_some] <;> rfl), (qv HO142), (qs HB)⟩
  ·rw [if_neg c5] at H
   exact absurd H (by simp)
 ·rw [if_neg c4] at H
  exact absurd H (by simp)
def nat_fold_116_with_nat_product.l0 : Nat → List Int → List (List Int) → Int → Int → Option (List Int × Int)
 | 0, _, _, _, _ => none
 | k + 1, x0, x13, x14, x15 => if x15 < x14 then (if 0 ≤ x15 then (if x15 < (x13.length : Int) then ((nat_product.f k x0 (rd_L2 x13 x15)).bind fun t150 => (if (t150.length : Int) > 256 then (some (([] : List Int), 11)) else (nat_fold_116_with_nat_product.l0 k t150 x13 x14 (wrap64 (x15 + 1))))) else (none)) else (none)) else (some (x0, 0))
def nat_fold_116_with_nat_product.f (k : Nat) (l0 : List Int) (l1 : List (List Int)) : Option (List Int × Int) := (nat_rights.f k l1).bind fun t148 => (if t148 = true then (nat_fold_116_with_nat_product.l0 k l0 l1 (l1.length : Int) 0) else (some (([] : List Int), 1)))
theorem nat_fold_116_with_nat_product.mono_l : ∀ k, (∀ y0 y1 y2 y3, LeO (nat_fold_116_with_nat_product.l0 k y0 y1 y2 y3) (nat_fold_116_with_nat_product.l0 (k + 1) y0 y1 y2 y3))
 | 0 => fun _ _ _ _ r h => by simp [nat_fold_116_with_nat_product.l0] at h
 | k + 1 => by
  have ih0 := nat_fold_116_with_nat_product.mono_l k
  ·intro y0 y1 y2 y3
   unfold nat_fold_116_with_nat_product.l0
   repeat' first
   | (with_reducible exact ih0 _ _ _ _)
   | (with_reducible exact nat_product.mono _ _ _)
   | (with_reducible exact nat_rights.mono _ _)
   | (with_reducible exact LeO.refl _)
   | (with_reducible exact LeO.none _)
   | (with_reducible refine LeO.ite ?_ ?_)
   | (with_reducible refine LeO.bind ?_ (fun _ => ?_))
   | exact ih0 _ _ _ _
   | exact nat_product.mono _ _ _
   | exact nat_rights.mono _ _
   | exact LeO.none _
   | refine LeO.ite ?_ ?_
   | refine LeO.bind ?_ (fun _ => ?_)
theorem nat_fold_116_with_nat_product.mono : ∀ a0 a1 k, LeO (nat_fold_116_with_nat_product.f k a0 a1) (nat_fold_116_with_nat_product.f (k + 1) a0 a1) := by
 intro a0 a1 k
 have ih0 := nat_fold_116_with_nat_product.mono_l k
 unfold nat_fold_116_with_nat_product.f
 repeat' first
   | (with_reducible exact ih0 _ _ _ _)
   | (with_reducible exact nat_product.mono _ _ _)
   | (with_reducible exact nat_rights.mono _ _)
   | (with_reducible exact LeO.refl _)
   | (with_reducible exact LeO.none _)
   | (with_reducible refine LeO.ite ?_ ?_)
   | (with_reducible refine LeO.bind ?_ (fun _ => ?_))
   | exact ih0 _ _ _ _
   | exact nat_product.mono _ _ _
   | exact nat_rights.mono _ _
   | exact LeO.none _
   | refine LeO.ite ?_ ?_
   | refine LeO.bind ?_ (fun _ => ?_)
set_option maxHeartbeats 8000000 in
set_option maxRecDepth 100000 in
theorem nat_fold_116_with_nat_product.calls (k : Nat) (P0_ : Nat → Prop) (A0 : Option Addr) (c0 : Nat) (l0 : List Int) (A1 : Option Addr) (c1 : Nat) (l1 : List (List Int)) (r1 : List Int) (r2 : Int) (w : World) (hs0 : Kd.V (Kd.int .u32) 89 w w.heap.size (fun k_ => P0_ k_) (.slice A0 l0.length c0) l0) (hr1 : Kd.C (Kd.slice 89 (Kd.int .u32)) w A1 l1.length l1) (hc1 : l1.length ≤ c1) (h : nat_fold_116_with_nat_product.f k l0 l1 = some (r1, r2)) :
  Calls Tryz.prog 116 #[.slice A0 l0.length c0, .slice A1 l1.length c1, .func (.func 118) #[] #[]] w fun e w' => ∃ v0_ : Value, e = .returned (.tuple #[v0_, .int .i64 r2]) ∧ Kd.V (Kd.int .u32) 89 w' w.heap.size (fun k_ => (P0_ k_ ∨ w.heap.size ≤ k_)) v0_ r1 ∧ Below w.heap.size w w' := by
 have HO0 := Aside0.mk (show Kd.V (Kd.int .u32) 89 w w.heap.size (fun k_ => (P0_ k_ ∨ w.heap.size ≤ k_)) (.slice A0 l0.length c0) l0 from Kd.V_mono hs0 (fun k_ hk => .inl hk))
 have HR1 := Aside0.mk hr1
 have HC1 := Aside0.mk hc1
 clear hr1 hc1
 have HB := Aside0.mk (Below.refl w.heap.size w)
 have H : ((nat_rights.f k l1).bind fun t148 => (if t148 = true then (nat_fold_116_with_nat_product.l0 k l0 l1 (l1.length : Int) 0) else (some (([] : List Int), 1)))) = some (r1, r2) := h
 clear h
 replace H := Option.bind_eq_some_iff.mp H
 obtain ⟨t148, A30, H⟩ := H
 try dsimp only at H
 have A3 := Aside0.mk A30
 clear A30
 by_cases c4 : t148 = true
 ·subst c4
  have H1 : (nat_fold_116_with_nat_product.l0 k l0 l1 (l1.length : Int) 0) = some (r1, r2) := by rw [if_pos rfl] at H; exact H
  clear H
  have H := H1
  clear H1
  have H' := Aside0.mk H
  clear H
  go_enter Tryz.func116, Tryz.ntmps116
  go_wp2_with (first | ((with_reducible refine gate_callee (f := 107) rfl ?_); refine goesL_ (some 11) rfl rfl Tryz.func107 (by kernel_rfl) rfl #[.slice A1 l1.length c1] rfl ql ?_; (with_reducible refine (nat_rights.calls k _ _ l1 true _ ?side1 ?side2 A3.out).mono ?_); (case side1 => repeat (first | exact HR1.out | (with_reducible refine Kd.C_alloc ?_ _) | (with_reducible refine Kd.C_drewN ?_ _) | (with_reducible refine Kd.C_drew ?_))); (case side2 => exact HC1.out); rintro e w5 ⟨rfl, hb⟩; refine ⟨_, rfl, ?_⟩; replace HO0 := Aside0.mk (Kd.V_below (qv HO0) hb); replace HB := Aside0.mk (below_step (qs HB) hb); (try clear hb); (try clear hb2); (try clear hk); (try clear hi)))
  go_loopg [0, 15] k (fun kq v0 v15 w' => ∃ (x0_1 : List Int) (x15_1 : Int), v15 = .int .i64 x15_1 ∧ Aside0 (nat_fold_116_with_nat_product.l0 kq x0_1 l1 (l1.length : Int) x15_1 = some (r1, r2)) ∧ Aside0 (kq ≤ k) ∧ Aside0 (Kd.V (Kd.int .u32) 89 w' w.heap.size (fun k_ => (P0_ k_ ∨ w.heap.size ≤ k_)) v0 x0_1) ∧ Aside0 (Below w.heap.size w w'))
  case atStart => exact ⟨(l0), (0), (by first | rfl | (simp; done) | (simp [*]; done)), H', ⟨Nat.le_refl _⟩, ⟨(qv HO0)⟩, ⟨(qs HB)⟩⟩
  case round =>
   clear H'
   try clear c1
   try clear p2
   try clear c4
   obtain ⟨x0_1, x15_1, rfl, HA, HK1, HO_0, HB⟩ := hrel
   cases gk with
   | zero => exact absurd HA.out (by simp [nat_fold_116_with_nat_product.l0])
   | succ k1 =>
    have H := HA.out
    clear HA
    simp only [nat_fold_116_with_nat_product.l0] at H
    by_cases c6 : x15_1 < (l1.length : Int)
    ·rw [if_pos c6] at H
     have c6b0 : decide (x15_1 < (l1.length : Int)) = true := decide_eq_true c6
     clear c6
     by_cases c7 : 0 ≤ x15_1
     ·rw [if_pos c7] at H
      have c7b0 : decide (0 ≤ x15_1) = true := decide_eq_true c7
      clear c7
      by_cases c8 : x15_1 < (l1.length : Int)
      ·rw [if_pos c8] at H
       have c8b0 : decide (x15_1 < (l1.length : Int)) = true := decide_eq_true c8
       clear c8
       replace H := Option.bind_eq_some_iff.mp H
       obtain ⟨t150, A90, H⟩ := H
       try dsimp only at H
       have A9 := Aside0.mk A90
       clear A90
       by_cases c10 : (t150.length : Int) > 256
       ·rw [if_pos c10] at H
        have c10b0 : decide (256 < (t150.length : Int)) = true := decide_eq_true c10
        have c10b1 : decide (256 < t150.length) = true := decide_eq_true (by omega)
        clear c10
        simp only [Option.some.injEq, Prod.mk.injEq] at H
        obtain ⟨rfl, rfl⟩ := H
        have p149 : 0 ≤ (x15_1 : Int) := of_decide_eq_true qa
        have q149 : x15_1 < (l1.length : Int) := of_decide_eq_true qa
        obtain ⟨ad149, A149_0, c149_0, e149, hx149_0, hl149_0, hi149_0⟩ := at_L2 HR1.out x15_1 p149 q149
        cases e149
        replace hx149_0 := (HB.out.cell (World.block_lt_of_cell? w _ hx149_0)).trans hx149_0
        have HR149_0 := Aside0.mk hi149_0
        have HC149_0 := Aside0.mk hl149_0
        clear hi149_0 hl149_0
        replace p149 := eq_true p149
        replace q149 := eq_true q149
        obtain ⟨Ao11, co11, eo11⟩ := Kd.V_slice HO_0.out
        subst eo11
        go_wp2_with (first | ((with_reducible refine gate_calleeT (j := 19) rfl ?_); refine goesT_ (some 22) rfl rfl Tryz.func118 (by kernel_rfl) rfl #[.slice Ao11 x0_1.length co11, .slice A149_0 (rd_L2 l1 x15_1).length c149_0] rfl rfl ql ?_; (with_reducible refine (nat_product.calls k1 _ _ x0_1 _ _ (rd_L2 l1 x15_1) t150 _ ?side1 ?side2 ?side3 ?side4 A9.out).mono ?_); (case side1 => repeat (first | exact (Kd.V_reads' HO_0.out).2.2 | (with_reducible refine Kd.C_alloc ?_ _) | (with_reducible refine Kd.C_drewN ?_ _) | (with_reducible refine Kd.C_drew ?_))); (case side2 => exact (Kd.V_reads' HO_0.out).2.1); (case side3 => repeat (first | exact (Kd.C_below HR149_0.out HB.out) | (with_reducible refine Kd.C_alloc ?_ _) | (with_reducible refine Kd.C_drewN ?_ _) | (with_reducible refine Kd.C_drew ?_))); (case side4 => exact HC149_0.out); rintro e w12 ⟨v151, rfl, ho0, hb⟩; refine ⟨_, rfl, ?_⟩; replace HO_0 := Aside0.mk (Kd.V_below (qv HO_0) hb); have HO152 := Aside0.mk (Kd.V_lower (Kd.V_mono (ok' := fun k_ => (P0_ k_ ∨ w.heap.size ≤ k_)) ho0 (fun k_ hk_ => (.inr (Nat.le_trans (below_size (qs HB)) hk_)))) (below_size (qs HB))); replace HB := Aside0.mk (below_step (qs HB) hb); (try clear hb); (try clear hb2); (try clear hk); (try clear hi); (try clear ho0); obtain ⟨Ao13, co13, eo13⟩ := Kd.V_slice HO152.out; subst eo13))
        go_ret2
        exact ⟨_, by first | rfl | (simp [errW_none, errW_some] <;> rfl) | (simp [*, errW_none, errW_some] <;> rfl), Kd.V_nil _ _ _ _ _, (qs HB)⟩
       ·rw [if_neg c10] at H
        have c10b0 : decide (256 < (t150.length : Int)) = false := decide_eq_false c10
        have c10b1 : decide (256 < t150.length) = false := decide_eq_false (by omega)
        clear c10
        have H' := Aside0.mk H
        clear H
        have p149 : 0 ≤ (x15_1 : Int) := of_decide_eq_true qa
        have q149 : x15_1 < (l1.length : Int) := of_decide_eq_true qa
        obtain ⟨ad149, A149_0, c149_0, e149, hx149_0, hl149_0, hi149_0⟩ := at_L2 HR1.out x15_1 p149 q149
        cases e149
        replace hx149_0 := (HB.out.cell (World.block_lt_of_cell? w _ hx149_0)).trans hx149_0
        have HR149_0 := Aside0.mk hi149_0
        have HC149_0 := Aside0.mk hl149_0
        clear hi149_0 hl149_0
        replace p149 := eq_true p149
        replace q149 := eq_true q149
        obtain ⟨Ao14, co14, eo14⟩ := Kd.V_slice HO_0.out
        subst eo14
        go_wp2_with (first | ((with_reducible refine gate_calleeT (j := 19) rfl ?_); refine goesT_ (some 22) rfl rfl Tryz.func118 (by kernel_rfl) rfl #[.slice Ao14 x0_1.length co14, .slice A149_0 (rd_L2 l1 x15_1).length c149_0] rfl rfl ql ?_; (with_reducible refine (nat_product.calls k1 _ _ x0_1 _ _ (rd_L2 l1 x15_1) t150 _ ?side1 ?side2 ?side3 ?side4 A9.out).mono ?_); (case side1 => repeat (first | exact (Kd.V_reads' HO_0.out).2.2 | (with_reducible refine Kd.C_alloc ?_ _) | (with_reducible refine Kd.C_drewN ?_ _) | (with_reducible refine Kd.C_drew ?_))); (case side2 => exact (Kd.V_reads' HO_0.out).2.1); (case side3 => repeat (first | exact (Kd.C_below HR149_0.out HB.out) | (with_reducible refine Kd.C_alloc ?_ _) | (with_reducible refine Kd.C_drewN ?_ _) | (with_reducible refine Kd.C_drew ?_))); (case side4 => exact HC149_0.out); rintro e w15 ⟨v151, rfl, ho0, hb⟩; refine ⟨_, rfl, ?_⟩; replace HO_0 := Aside0.mk (Kd.V_below (qv HO_0) hb); have HO152 := Aside0.mk (Kd.V_lower (Kd.V_mono (ok' := fun k_ => (P0_ k_ ∨ w.heap.size ≤ k_)) ho0 (fun k_ hk_ => (.inr (Nat.le_trans (below_size (qs HB)) hk_)))) (below_size (qs HB))); replace HB := Aside0.mk (below_step (qs HB) hb); (try clear hb); (try clear hb2); (try clear hk); (try clear hi); (try clear ho0); obtain ⟨Ao16, co16, eo16⟩ := Kd.V_slice HO152.out; subst eo16))
        go_roundg k1
        case measure => have := HK1.out; omega
        case rel => exact ⟨(t150), (wrap64 (x15_1 + 1)), (by first | rfl | (simp; done) | (simp [*]; done)), H', ⟨by have := HK1.out; omega⟩, ⟨(qv HO152)⟩, ⟨(qs HB)⟩⟩
      ·rw [if_neg c8] at H
       exact absurd H (by simp)
     ·rw [if_neg c7] at H
      exact absurd H (by simp)
    ·rw [if_neg c6] at H
     have c6b0 : decide (x15_1 < (l1.length : Int)) = false := decide_eq_false c6
     clear c6
     simp only [Option.some.injEq, Prod.mk.injEq] at H
     obtain ⟨rfl, rfl⟩ := H
     go_wp2
     go_ret2
     exact ⟨_, by first | rfl | (simp [errW_none, errW_some] <;> rfl) | (simp [*, errW_none, errW_some] <;> rfl), (qv HO_0), (qs HB)⟩
 ·replace c4 := Bool.eq_false_iff.mpr c4
  subst c4
  have H1 : (some (([] : List Int), 1)) = some (r1, r2) := by rw [if_neg (show ¬ (false = true) by decide)] at H; exact H
  clear H
  have H := H1
  clear H1
  simp only [Option.some.injEq, Prod.mk.injEq] at H
  obtain ⟨rfl, rfl⟩ := H
  go_enter Tryz.func116, Tryz.ntmps116
  go_wp2_with (first | ((with_reducible refine gate_callee (f := 107) rfl ?_); refine goesL_ (some 11) rfl rfl Tryz.func107 (by kernel_rfl) rfl #[.slice A1 l1.length c1] rfl ql ?_; (with_reducible refine (nat_rights.calls k _ _ l1 false _ ?side1 ?side2 A3.out).mono ?_); (case side1 => repeat (first | exact HR1.out | (with_reducible refine Kd.C_alloc ?_ _) | (with_reducible refine Kd.C_drewN ?_ _) | (with_reducible refine Kd.C_drew ?_))); (case side2 => exact HC1.out); rintro e w17 ⟨rfl, hb⟩; refine ⟨_, rfl, ?_⟩; replace HO0 := Aside0.mk (Kd.V_below (qv HO0) hb); replace HB := Aside0.mk (below_step (qs HB) hb); (try clear hb); (try clear hb2); (try clear hk); (try clear hi)))
  go_ret2
  exact ⟨_, by first | rfl | (simp [errW_none, errW_some] <;> rfl) | (simp [*, errW_none, errW_some] <;> rfl), Kd.V_nil _ _ _ _ _, (qs HB)⟩
def nat_Mul.f (k : Nat) (l0 : List (List Int)) : Option (List Int × Int) := (nat_Of.f k 1).bind fun t153 => ((nat_fold_116_with_nat_product.f k t153 l0).bind fun bt156 => (some (bt156.1, bt156.2)))
theorem nat_Mul.mono : ∀ a0 k, LeO (nat_Mul.f k a0) (nat_Mul.f (k + 1) a0) := by
  intro a0 k
  unfold nat_Mul.f
  repeat' first
      | (with_reducible exact nat_Of.mono _ _)
      | (with_reducible exact nat_fold_116_with_nat_product.mono _ _ _)
      | (with_reducible exact LeO.refl _)
      | (with_reducible exact LeO.none _)
      | (with_reducible refine LeO.ite ?_ ?_)
      | (with_reducible refine LeO.bind ?_ (fun _ => ?_))
      | exact nat_Of.mono _ _
      | exact nat_fold_116_with_nat_product.mono _ _ _
      | exact LeO.none _
      | refine LeO.ite ?_ ?_
      | refine LeO.bind ?_ (fun _ => ?_)
set_option maxHeartbeats 8000000 in
set_option maxRecDepth 100000 in
theorem nat_Mul.calls (k : Nat) (A0 : Option Addr) (c0 : Nat) (l0 : List (List Int)) (r1 : List Int) (r2 : Int) (w : World) (hr0 : Kd.C (Kd.slice 89 (Kd.int .u32)) w A0 l0.length l0) (hc0 : l0.length ≤ c0) (h : nat_Mul.f k l0 = some (r1, r2)) :
    Calls Tryz.prog 101 #[.slice A0 l0.length c0] w fun e w' => ∃ v0_ : Value, e = .returned (.tuple #[v0_, .int .i64 r2]) ∧ Kd.V (Kd.int .u32) 89 w' w.heap.size (fun k_ => (w.heap.size ≤ k_)) v0_ r1 ∧ Below w.heap.size w w' := by
  have HR0 := Aside0.mk hr0
  have HC0 := Aside0.mk hc0
  clear hr0 hc0
  have HB := Aside0.mk (Below.refl w.heap.size w)
  have H : ((nat_Of.f k 1).bind fun t153 => ((nat_fold_116_with_nat_product.f k t153 l0).bind fun bt156 => (some (bt156.1, bt156.2)))) = some (r1, r2) := h
  clear h
  replace H := Option.bind_eq_some_iff.mp H
  obtain ⟨t153, A20, H⟩ := H
  try dsimp only at H
  have A2 := Aside0.mk A20
  clear A20
  replace H := Option.bind_eq_some_iff.mp H
  obtain ⟨⟨t156, t159⟩, A30, H⟩ := H
  try dsimp only at H
  have A3 := Aside0.mk A30
  clear A30
  simp only [Option.some.injEq, Prod.mk.injEq] at H
  obtain ⟨rfl, rfl⟩ := H
  go_enter Tryz.func101, Tryz.ntmps101
  go_wp2_with (first | ((with_reducible refine gate_callee (f := 89) rfl ?_); refine goesL_ (some 4) rfl rfl Tryz.func89 (by kernel_rfl) rfl #[.int .u64 1] rfl ql ?_; (with_reducible refine (nat_Of.calls k 1 t153 _ A2.out).mono ?_); rintro e w4 ⟨v154, rfl, ho0, hb⟩; refine ⟨_, rfl, ?_⟩; have HO155 := Aside0.mk (Kd.V_lower (Kd.V_mono (ok' := fun k_ => (w.heap.size ≤ k_)) ho0 (fun k_ hk_ => (Nat.le_trans (below_size (qs HB)) hk_))) (below_size (qs HB))); replace HB := Aside0.mk (below_step (qs HB) hb); (try clear hb); (try clear hb2); (try clear hk); (try clear hi); (try clear ho0); obtain ⟨Ao5, co5, eo5⟩ := Kd.V_slice HO155.out; subst eo5) | ((with_reducible refine gate_callee (f := 116) rfl ?_); refine goesL_ (some 6) rfl rfl Tryz.func116 (by kernel_rfl) rfl #[.slice Ao5 t153.length co5, .slice A0 l0.length c0, .func (.func 118) #[] #[]] rfl ql ?_; (with_reducible refine (nat_fold_116_with_nat_product.calls k (fun k_ => (w.heap.size ≤ k_)) _ _ t153 _ _ l0 t156 t159 _ ?side1 ?side2 ?side3 A3.out).mono ?_); (case side1 => exact HO155.out); (case side2 => repeat (first | exact (Kd.C_below HR0.out HB.out) | (with_reducible refine Kd.C_alloc ?_ _) | (with_reducible refine Kd.C_drewN ?_ _) | (with_reducible refine Kd.C_drew ?_))); (case side3 => exact HC0.out); rintro e w6 ⟨v157, rfl, ho0, hb⟩; refine ⟨_, rfl, ?_⟩; replace HO155 := Aside0.mk (Kd.V_below (qv HO155) hb); have HO158 := Aside0.mk (Kd.V_lower (Kd.V_mono (ok' := fun k_ => (w.heap.size ≤ k_)) ho0 (fun k_ hk_ => Or.elim hk_ (fun hs_ => hs_) (fun hn_ => (Nat.le_trans (below_size (qs HB)) hn_)))) (below_size (qs HB))); replace HB := Aside0.mk (below_step (qs HB) hb); (try clear hb); (try clear hb2); (try clear hk); (try clear hi); (try clear ho0)))
  go_ret2
  exact ⟨_, by first | rfl | (simp [errW_none, errW_some] <;> rfl) | (simp [*, errW_none, errW_some] <;> rfl), (qv HO158), (qs HB)⟩
def word_Bits.l0 : Nat → Int → Int → Option (Int)
  | 0, _, _ => none
  | k + 1, x0, x2 => if x0 = 0 then (some x2) else (word_Bits.l0 k (x0 / 2) (wrap64 (x2 + 1)))
def word_Bits.f (k : Nat) (a0 : Int) : Option (Int) := word_Bits.l0 k a0 0
theorem word_Bits.mono_l : ∀ k, (∀ y0 y1, LeO (word_Bits.l0 k y0 y1) (word_Bits.l0 (k + 1) y0 y1))
  | 0 => fun _ _ r h => by simp [word_Bits.l0] at h
  | k + 1 => by
    have ih0 := word_Bits.mono_l k
    · intro y0 y1
      unfold word_Bits.l0
      repeat' first
      | (with_reducible exact ih0 _ _)
      | (with_reducible exact LeO.refl _)
      | (with_reducible exact LeO.none _)
      | (with_reducible refine LeO.ite ?_ ?_)
      | (with_reducible refine LeO.bind ?_ (fun _ => ?_))
      | exact ih0 _ _
      | exact LeO.none _
      | refine LeO.ite ?_ ?_
      | refine LeO.bind ?_ (fun _ => ?_)
theorem word_Bits.mono : ∀ a0 k, LeO (word_Bits.f k a0) (word_Bits.f (k + 1) a0) := by
  intro a0 k
  have ih0 := word_Bits.mono_l k
  unfold word_Bits.f
  repeat' first
      | (with_reducible exact ih0 _ _)
      | (with_reducible exact LeO.refl _)
      | (with_reducible exact LeO.none _)
      | (with_reducible refine LeO.ite ?_ ?_)
      | (with_reducible refine LeO.bind ?_ (fun _ => ?_))
      | exact ih0 _ _
      | exact LeO.none _
      | refine LeO.ite ?_ ?_
      | refine LeO.bind ?_ (fun _ => ?_)
set_option maxHeartbeats 8000000 in
set_option maxRecDepth 100000 in
theorem word_Bits.calls (k : Nat) (a0 : Int) (r : Int) (w : World) (h : word_Bits.f k a0 = some r) :
    Calls Tryz.prog 97 #[.int .u64 a0] w fun e w' => e = .returned (.int .i64 r) ∧ Drawn0 w w' := by
  have H : (word_Bits.l0 k a0 0) = some r := h
  clear h
  have H' := Aside0.mk H
  clear H
  go_enter Tryz.func97, Tryz.ntmps97
  go_wp2
  go_loopg [0, 2] k (fun kq v0 v2 w' => ∃ (x0_1 : Int) (x2_1 : Int), v0 = .int .u64 x0_1 ∧ v2 = .int .i64 x2_1 ∧ Aside0 (word_Bits.l0 kq x0_1 x2_1 = some r) ∧ Aside0 (kq ≤ k) ∧ Drawn0 w w')
  case atStart => exact ⟨(a0), (0), (by first | rfl | (simp; done) | (simp [*]; done)), (by first | rfl | (simp; done) | (simp [*]; done)), H', ⟨Nat.le_refl _⟩, by repeat (first | exact Drawn0.refl _ | apply Drawn0.step)⟩
  case round =>
    clear H'
    obtain ⟨x0_1, x2_1, rfl, rfl, HA, HK1, ⟨m1, rfl⟩⟩ := hrel
    cases gk with
    | zero => exact absurd HA.out (by simp [word_Bits.l0])
    | succ k1 =>
      have H := HA.out
      clear HA
      simp only [word_Bits.l0] at H
      by_cases c2 : x0_1 = 0
      · rw [if_pos c2] at H
        have c2b0 : (x0_1 == 0) = true := beq_iff_eq.mpr c2
        have c2b1 : (x0_1 != 0) = false := bne_eq_false_iff_eq.mpr c2
        clear c2
        obtain rfl := Option.some.inj H
        go_wp2
        go_ret
        exact ⟨by first | rfl | (simp; done) | (simp [*]; done), by repeat (first | exact Drawn0.refl _ | apply Drawn0.step)⟩
      · rw [if_neg c2] at H
        have c2b0 : (x0_1 == 0) = false := beq_eq_false_iff_ne.mpr c2
        have c2b1 : (x0_1 != 0) = true := bne_iff_ne.mpr c2
        have H' := Aside0.mk H
        clear H
        go_wp2
        go_roundg k1
        case measure => have := HK1.out; omega
        case rel => exact ⟨(x0_1 / 2), (wrap64 (x2_1 + 1)), (by first | rfl | (simp; done) | (simp [*]; done)), (by first | rfl | (simp; done) | (simp [*]; done)), H', ⟨by have := HK1.out; omega⟩, by repeat (first | exact Drawn0.refl _ | apply Drawn0.step)⟩
def uniform_Need.f (k : Nat) (a0 : Int) : Option (Int) := (word_Bits.f k (IntKind.u64.wrap ((mx a0 1) - 1))).bind fun t160 => (some t160)
theorem uniform_Need.mono : ∀ a0 k, LeO (uniform_Need.f k a0) (uniform_Need.f (k + 1) a0) := by
  intro a0 k
  unfold uniform_Need.f
  repeat' first
      | (with_reducible exact word_Bits.mono _ _)
      | (with_reducible exact LeO.refl _)
      | (with_reducible exact LeO.none _)
      | (with_reducible refine LeO.ite ?_ ?_)
      | (with_reducible refine LeO.bind ?_ (fun _ => ?_))
      | exact word_Bits.mono _ _
      | exact LeO.none _
      | refine LeO.ite ?_ ?_
      | refine LeO.bind ?_ (fun _ => ?_)
set_option maxHeartbeats 8000000 in
set_option maxRecDepth 100000 in
theorem uniform_Need.calls (k : Nat) (a0 : Int) (r : Int) (w : World) (h : uniform_Need.f k a0 = some r) :
    Calls Tryz.prog 70 #[.int .u64 a0] w fun e w' => e = .returned (.int .i64 r) ∧ Below w.heap.size w w' := by
  have HB := Aside0.mk (Below.refl w.heap.size w)
  have H : ((word_Bits.f k (IntKind.u64.wrap ((mx a0 1) - 1))).bind fun t160 => (some t160)) = some r := h
  clear h
  obtain ⟨ji2, hji2⟩ : ∃ j_ : Int, (mx a0 1) = j_ := ⟨_, rfl⟩
  replace H : ((word_Bits.f k (IntKind.u64.wrap ((ji2) - 1))).bind fun t160 => (some t160)) = some r := by first | (rw [hji2] at H; exact H) | (simp only [hji2] at H ⊢; exact H)
  (try (have hji2l : 1 ≤ ji2 := by (rw [← hji2]; unfold mx; (repeat' split) <;> omega)))
  (try (have hji2m : 0 ≤ ji2 := by omega))
  have hji2_ : (if a0 < 1 then 1 else a0) = ji2 := hji2
  replace H := Option.bind_eq_some_iff.mp H
  obtain ⟨t160, A30, H⟩ := H
  try dsimp only at H
  have A3 := Aside0.mk A30
  clear A30
  obtain rfl := Option.some.inj H
  go_enter Tryz.func70, Tryz.ntmps70
  go_wp2_with (first | ((with_reducible refine gate_callee (f := 97) rfl ?_); refine goesL_ (some 6) rfl rfl Tryz.func97 (by kernel_rfl) rfl #[.int .u64 (IntKind.u64.wrap ((ji2) - 1))] rfl (by (try simp only [List.map_toArray, List.map_cons, List.map_nil]); first | done | (simp only [hji2]; rfl) | rfl | (simp only [List.length_drop, List.length_take]; rfl)) ?_; (with_reducible refine (word_Bits.calls k (IntKind.u64.wrap ((ji2) - 1)) t160 _ A3.out).mono ?_); rintro e w' ⟨rfl, ⟨nd, rfl⟩⟩; refine ⟨_, rfl, ?_⟩))
  go_ret
  exact ⟨by first | rfl | (simp [errW_none, errW_some] <;> rfl) | (simp only [← hji2]; first | rfl | (simp [errW_none, errW_some] <;> rfl)) | (simp [*, errW_none, errW_some] <;> rfl), (qs HB)⟩
end Go.Proofs.YtekmngghebpciaaGreat.PW
end
section
namespace Go.Proofs.YtekmngghebpciaaGreat.PW
open Go.RowKit Go.Proofs.YtekmngghebpciaaGreatW.PrintWords Go.Proofs.YtekmngghebpciaaGreatW.PrintLast Go.Proofs.YtekmngghebpciaaGreatW.PrintMore
attribute [local go_sem] max2_int min2_int max_two min_two max_three min_three max_four min_four
set_option linter.unusedVariables false
set_option linter.unusedSimpArgs false
def odds_game_bits.f (k : Nat) (a0_0 : Int) (a0_1 : Int) : Option (Int) := (uniform_Need.f k a0_0).bind fun t162 => (some (wrap64 (t162 * a0_1)))
theorem odds_game_bits.mono : ∀ a0 a1 k, LeO (odds_game_bits.f k a0 a1) (odds_game_bits.f (k + 1) a0 a1) := by
 intro a0 a1 k
 unfold odds_game_bits.f
 repeat' first
   | (with_reducible exact uniform_Need.mono _ _)
   | (with_reducible exact LeO.refl _)
   | (with_reducible exact LeO.none _)
   | (with_reducible refine LeO.ite ?_ ?_)
   | (with_reducible refine LeO.bind ?_ (fun _ => ?_))
   | exact uniform_Need.mono _ _
   | exact LeO.none _
   | refine LeO.ite ?_ ?_
   | refine LeO.bind ?_ (fun _ => ?_)
set_option maxHeartbeats 8000000 in
set_option maxRecDepth 100000 in
theorem odds_game_bits.calls (k : Nat) (a0_0 : Int) (a0_1 : Int) (r : Int) (w : World) (h : odds_game_bits.f k a0_0 a0_1 = some r) :
  Calls Tryz.prog 56 #[.agg #[.int .u64 a0_0, .int .i64 a0_1]] w fun e w' => e = .returned (.int .i64 r) ∧ Below w.heap.size w w' := by
 have hu105 := Tryz.underlying105
 have HB := Aside0.mk (Below.refl w.heap.size w)
 have H : ((uniform_Need.f k a0_0).bind fun t162 => (some (wrap64 (t162 * a0_1)))) = some r := h
 clear h
 replace H := Option.bind_eq_some_iff.mp H
 obtain ⟨t162, A20, H⟩ := H
 try dsimp only at H
 have A2 := Aside0.mk A20
 clear A20
 obtain rfl := Option.some.inj H
 go_enter Tryz.func56, Tryz.ntmps56
 try go_wp2_with (first | ((with_reducible refine qd 1 ?_); refine box_event ?hg (N := 1) ?hd (cs := #[.int .u64 a0_0, .int .i64 a0_1]) (t := 105) ?hr ?_; (case hd => rfl); (case hg => rfl); (case hr => first | (go_simp; done) | (go_simp; rfl)); intro gb161 hg w3 hbox hb; have BK161 := Aside0.mk (hbox); have GW161 := Aside0.mk (qe HB hg); have GE161 := Aside0.mk (qe HB hg); replace HB := Aside0.mk (below_step (qs HB) hb); clear hb hbox hg))
 replace BK161 := Aside0.mk (blk_drew BK161.out)
 replace HB := Aside0.mk (below_drew1 HB.out)
 refine start_ (n := 7) (S := fun w' => w'.cell? ⟨gb161, 0, none⟩ = some (.int .u64 a0_0) ∧ w'.cell? ⟨gb161, 1, none⟩ = some (.int .i64 a0_1)) (ds := []) #[false, false, false, false, false, false, false] (by kernel_rfl) rfl rfl ⟨(blk_cell BK161.out 0).trans rfl, (blk_cell BK161.out 1).trans rfl⟩ (fun hHeld => ?_)
 generalize w3.drew = w4 at BK161 HB hHeld ⊢
 refine qP 0 (some 3) (qt 7 1) ?_
 refine qP 3 (some 6) (qt 7 9) ?_
 refine take_ (i := 1) (N := some 4) (v := ?_) (a' := ?_) (qt 7 11) rfl rfl (by kernel_rfl) (fun _ _ _ h => h) (Or.inl ⟨by rfl, ?_⟩) hHeld ?_ ?_
 rotate_left
 ·rintro w' ⟨s0, s1⟩
  go_simp
  with_reducible rfl
 rotate_left
 ·simp only [Act.put, zA_, zB_, zC_, i64_w, i32_w]
  rfl
 refine take_ (i := 4) (N := some 7) (v := ?_) (a' := ?_) (qt 7 27) rfl rfl (by kernel_rfl) (fun _ _ _ h => h) (Or.inl ⟨by rfl, ?_⟩) hHeld ?_ ?_
 rotate_left
 ·rintro w' ⟨s0, s1⟩
  go_simp
  with_reducible rfl
 rotate_left
 ·simp only [Act.put, zA_, zB_, zC_, i64_w, i32_w]
  rfl
 refine one_ (i := 2) (N := some 5) (qt 7 31) rfl rfl (by kernel_rfl) (by decide) (fun K hK => ?_)
 refine goes_ Tryz.func70 (by kernel_rfl) rfl #[.int .u64 a0_0] (by rfl) rfl rfl ql ?_
 with_reducible refine (uniform_Need.calls k a0_0 t162 _ A2.out).mono ?_
 rintro e w5 ⟨rfl, hb⟩
 refine ⟨_, rfl, ?_⟩
 replace BK161 := Aside0.mk (qB BK161 hb)
 replace HB := Aside0.mk (below_step (qs HB) hb)
 (try clear hb)
 (try clear hb2)
 (try clear hk)
 (try clear hi)
 refine hK.out _ _ ⟨(blk_cell BK161.out 0).trans rfl, (blk_cell BK161.out 1).trans rfl⟩ (fun hHeld => ?_)
 clear hK K
 refine norm_ (a' := ?_) ?_ ?_
 rotate_left
 ·show Act.put _ (some 5) _ = _
  simp only [Act.put, zA_, zB_, zC_, i64_w, i32_w]
  rfl
 refine qP 5 (some 8) (qt 7 63) ?_
 refine qP 6 (some 2) (qt 7 127) ?_
 refine done_ (by kernel_rfl) ?_
 try go_wp2
 go_ret
 exact ⟨by first | rfl | (simp [errW_none, errW_some] <;> rfl) | (simp [*, errW_none, errW_some] <;> rfl), (qs HB)⟩
def nat_Two.f (a0 : Int) : Option (List Int × Int) := if a0 < 0 then (none) else (if a0 ≥ 8192 then (none) else (if 0 ≤ (wrap64 ((wrap64 (Int.tdiv a0 32)) + 1)) then (if (wrap64 ((wrap64 (Int.tdiv a0 32)) + 1) : Int).toNat ≤ 70368744177664 then ((some (List.replicate (wrap64 ((wrap64 (Int.tdiv a0 32)) + 1) : Int).toNat 0 : List Int)).bind fun y163 => (if 0 ≤ (Int.tmod a0 32) then (if 0 ≤ (wrap64 (Int.tdiv a0 32)) then (if (wrap64 (Int.tdiv a0 32)) < (y163.length : Int) then (some ((y163.set ((wrap64 (Int.tdiv a0 32)) : Int).toNat (shl .u32 1 (Int.tmod a0 32))), 0)) else (none)) else (none)) else (none))) else (none)) else (none)))
set_option maxHeartbeats 8000000 in
set_option maxRecDepth 100000 in
theorem nat_Two.calls (a0 : Int) (r1 : List Int) (r2 : Int) (w : World) (h : nat_Two.f a0 = some (r1, r2)) :
  Calls Tryz.prog 87 #[.int .i64 a0] w fun e w' => ∃ v0_ : Value, e = .returned (.tuple #[v0_, .int .i64 r2]) ∧ Kd.R (Kd.int .u32) 89 w' w.heap.size (fun _ => True) v0_ r1 ∧ Below w.heap.size w w' := by
 have HB := Aside0.mk (Below.refl w.heap.size w)
 have H : (if a0 < 0 then (none) else (if a0 ≥ 8192 then (none) else (if 0 ≤ (wrap64 ((wrap64 (Int.tdiv a0 32)) + 1)) then (if (wrap64 ((wrap64 (Int.tdiv a0 32)) + 1) : Int).toNat ≤ 70368744177664 then ((some (List.replicate (wrap64 ((wrap64 (Int.tdiv a0 32)) + 1) : Int).toNat 0 : List Int)).bind fun y163 => (if 0 ≤ (Int.tmod a0 32) then (if 0 ≤ (wrap64 (Int.tdiv a0 32)) then (if (wrap64 (Int.tdiv a0 32)) < (y163.length : Int) then (some ((y163.set ((wrap64 (Int.tdiv a0 32)) : Int).toNat (shl .u32 1 (Int.tmod a0 32))), 0)) else (none)) else (none)) else (none))) else (none)) else (none)))) = some (r1, r2) := h
 clear h
 by_cases c2 : a0 < 0
 ·rw [if_pos c2] at H
  exact absurd H (by simp)
 ·rw [if_neg c2] at H
  have c2b0 : decide (a0 < 0) = false := decide_eq_false c2
  clear c2
  by_cases c3 : a0 ≥ 8192
  ·rw [if_pos c3] at H
   exact absurd H (by simp)
  ·rw [if_neg c3] at H
   have c3b0 : decide (8192 ≤ a0) = false := decide_eq_false c3
   clear c3
   obtain ⟨ji4, hji4⟩ : ∃ j_ : Int, (wrap64 ((wrap64 (Int.tdiv a0 32)) + 1)) = j_ := ⟨_, rfl⟩
   replace H : (if 0 ≤ (ji4) then (if (ji4 : Int).toNat ≤ 70368744177664 then ((some (List.replicate (ji4 : Int).toNat 0 : List Int)).bind fun y163 => (if 0 ≤ (Int.tmod a0 32) then (if 0 ≤ (wrap64 (Int.tdiv a0 32)) then (if (wrap64 (Int.tdiv a0 32)) < (y163.length : Int) then (some ((y163.set ((wrap64 (Int.tdiv a0 32)) : Int).toNat (shl .u32 1 (Int.tmod a0 32))), 0)) else (none)) else (none)) else (none))) else (none)) else (none)) = some (r1, r2) := by first | (rw [hji4] at H; exact H) | (simp only [hji4] at H ⊢; exact H)
   have hji4w : (IntKind.i64.wrap ((wrap64 (Int.tdiv a0 32)) + 1)) = ji4 := (i64_w _).trans hji4
   by_cases c5 : 0 ≤ (ji4)
   ·rw [if_pos c5] at H
    have c5b0 := eq_true c5
    have c5b1 : decide (0 ≤ (ji4)) = true := decide_eq_true c5
    clear c5
    by_cases c6 : (ji4 : Int).toNat ≤ 70368744177664
    ·rw [if_pos c6] at H
     have c6b0 := eq_true c6
     have c6b1 : decide ((ji4 : Int).toNat ≤ 70368744177664) = true := decide_eq_true c6
     clear c6
     obtain ⟨y163, hy163⟩ : ∃ y_ : List Int, y_ = (List.replicate (ji4 : Int).toNat 0) := ⟨_, rfl⟩
     replace H : (if 0 ≤ (Int.tmod a0 32) then (if 0 ≤ (wrap64 (Int.tdiv a0 32)) then (if (wrap64 (Int.tdiv a0 32)) < (y163.length : Int) then (some ((y163.set ((wrap64 (Int.tdiv a0 32)) : Int).toNat (shl .u32 1 (Int.tmod a0 32))), 0)) else (none)) else (none)) else (none)) = some (r1, r2) := by first | (rw [hy163]; with_reducible exact H) | (have H2_ := (Option.bind_some _ _).symm.trans H; rw [hy163]; with_reducible exact H2_) | (have H2_ := (Option.bind_some _ _).symm.trans H; with_reducible exact H2_) | with_reducible exact H | (rw [hy163]; exact H) | exact H
     have Ny163 := Aside0.mk hy163
     clear hy163
     obtain ⟨ji7, hji7⟩ : ∃ j_ : Int, (Int.tmod a0 32) = j_ := ⟨_, rfl⟩
     replace H : (if 0 ≤ (ji7) then (if 0 ≤ (wrap64 (Int.tdiv a0 32)) then (if (wrap64 (Int.tdiv a0 32)) < (y163.length : Int) then (some ((y163.set ((wrap64 (Int.tdiv a0 32)) : Int).toNat (shl .u32 1 (ji7))), 0)) else (none)) else (none)) else (none)) = some (r1, r2) := by first | (rw [hji7] at H; exact H) | (simp only [hji7] at H ⊢; exact H)
     by_cases c8 : 0 ≤ (ji7)
     ·rw [if_pos c8] at H
      have c8b0 := eq_true c8
      have c8b1 : decide (0 ≤ (ji7)) = true := decide_eq_true c8
      clear c8
      obtain ⟨ji9, hji9⟩ : ∃ j_ : Int, (shl .u32 1 (ji7)) = j_ := ⟨_, rfl⟩
      replace H : (if 0 ≤ (wrap64 (Int.tdiv a0 32)) then (if (wrap64 (Int.tdiv a0 32)) < (y163.length : Int) then (some ((y163.set ((wrap64 (Int.tdiv a0 32)) : Int).toNat (ji9)), 0)) else (none)) else (none)) = some (r1, r2) := by first | (rw [hji9] at H; exact H) | (simp only [hji9] at H ⊢; exact H)
      have hji9_ : (IntKind.u32.wrap (1 * 2 ^ min (ji7).toNat 32)) = ji9 := hji9
      have hji9z : (ji7) ≤ 32 → (IntKind.u32.wrap (1 * 2 ^ (ji7).toNat)) = ji9 := shl_small hji9
      have hji9u : (IntKind.u32.wrap (2 ^ min (ji7).toNat 32)) = ji9 := by have h_ := hji9_; rw [Int.one_mul] at h_; exact h_
      have hji9v : (ji7) ≤ 32 → (IntKind.u32.wrap (2 ^ (ji7).toNat)) = ji9 := fun hle_ => by have h_ := hji9z hle_; rw [Int.one_mul] at h_; exact h_
      obtain ⟨ji10, hji10⟩ : ∃ j_ : Int, (wrap64 (Int.tdiv a0 32)) = j_ := ⟨_, rfl⟩
      (try simp only [hji10] at hji4); (try simp only [hji10] at hji4w)
      replace H : (if 0 ≤ (ji10) then (if (ji10) < (y163.length : Int) then (some ((y163.set ((ji10) : Int).toNat (ji9)), 0)) else (none)) else (none)) = some (r1, r2) := by first | (rw [hji10] at H; exact H) | (simp only [hji10] at H ⊢; exact H)
      have hji10w : (IntKind.i64.wrap (Int.tdiv a0 32)) = ji10 := (i64_w _).trans hji10
      by_cases c11 : 0 ≤ (ji10)
      ·rw [if_pos c11] at H
       have c11b0 : decide (0 ≤ (ji10)) = true := decide_eq_true c11
       clear c11
       by_cases c12 : (ji10) < (y163.length : Int)
       ·rw [if_pos c12] at H
        have c12b0 : decide ((ji10) < (y163.length : Int)) = true := decide_eq_true c12
        clear c12
        obtain ⟨y166, hy166⟩ : ∃ y_ : List Int, y_ = (y163.set ((ji10) : Int).toNat (ji9)) := ⟨_, rfl⟩
        replace H : (some (y166, 0)) = some (r1, r2) := by first | (rw [hy166]; with_reducible exact H) | (have H2_ := (Option.bind_some _ _).symm.trans H; rw [hy166]; with_reducible exact H2_) | (have H2_ := (Option.bind_some _ _).symm.trans H; with_reducible exact H2_) | with_reducible exact H | (rw [hy166]; exact H) | exact H
        have Ny166 := Aside0.mk hy166
        clear hy166
        simp only [Option.some.injEq, Prod.mk.injEq] at H
        obtain ⟨rfl, rfl⟩ := H
        go_enter Tryz.func87, Tryz.ntmps87
        go_wp2_with (first | ((with_reducible refine qd 14 ?_); refine Kd.R_make (Kd.int .u32) _ 89 rfl (N := 14) rfl 44 _ _ rfl ji4 rfl rfl Tryz.underlying44 (.int .u32 0) 4 info89 rfl (by decide) (by omega) 0 (ok := fun _ => True) (okp := fun _ => True) rfl (fun _ hk => hk) trivial qo (Nat.le_trans (Nat.mul_le_mul_right _ (of_decide_eq_true qa : ji4.toNat ≤ 70368744177664)) (by omega)) (Below.refl _ _) (Nat.le_refl _) ?_; intro v164 w14 ho15 hb hg_ hnew_; clear hg_ hnew_; (first | rw [← Ny163.out] at ho15 | (simp only [Int.reduceToNat] at ho15; rw [← Ny163.out] at ho15)); have HO165 := Aside0.mk (Kd.R_lower ho15 (below_size (qs HB))); replace HB := Aside0.mk (below_step (qs HB) hb); clear hb ho15; have p13 : 0 ≤ ((ji10) : Int) := of_decide_eq_true qa; have q13 : ((ji10) : Int) < ((y163.length : Int) : Int) := of_decide_eq_true qa; obtain ⟨go13, co13, eo13, gb13, gl13, cl13, HG13⟩ := Kd.R_form HO165.out (by omega); (first | cases eo13 | (injection eo13 with ea_ en_ ec_; (first | subst ea_ | (injection ea_ with ea_; subst ea_)); subst ec_; clear en_)); have GB13 := Aside0.mk gb13; have GG13 := Aside0.mk HG13; clear gb13 gl13 HG13; obtain ⟨hx13_0, hf13_0⟩ := Kd.R_celln 0 HO165.out ((ji10) : Int) p13 q13; replace p13 := eq_true p13; replace q13 := eq_true q13; obtain ⟨hy16_, hz16_⟩ := Kd.R_celln 0 HO165.out ((ji10) : Int) qo qo; have HP16 := Kd.R_putg HO165.out ((ji10) : Int) ji9) | ((with_reducible refine gate_store (t := 89) (p := 21) rfl ?_); refine store_event (t := 89) (p := 21) (v := ?vo_w17) (w1 := (w14.setCell ⟨go13, ((ji10) : Int).toNat, none⟩ (.int .u32 ji9))) ?hg ?ho ?hn ?hr ?_; (case ho => rfl); (case hg => rfl); (case hn => rfl); (case hr => first | (go_simp; done) | (go_simp; rfl)); intro w17 hw; have hg : w14.grownBy w17 (some go13) := (by rw [hw]; exact HP16.2); have hp_ : Kd.R (Kd.int .u32) 89 w17 w.heap.size (fun _ => True) (.slice (some ⟨go13, 0, none⟩) y163.length co13) y166 := (by rw [hw, Ny166.out]; exact HP16.1); clear HP16; replace HO165 := Aside0.mk (hp_); replace HB := Aside0.mk ((by rw [hw]; exact below_set (HB.out) GB13.out : Below w.heap.size w w17)); clear hg hw hp_))
        go_ret2
        exact ⟨_, by first | rfl | (simp [errW_none, errW_some] <;> rfl) | (simp only [← hji4, ← hji7, ← hji9, ← hji10]; first | rfl | (simp [errW_none, errW_some] <;> rfl)) | (simp [*, errW_none, errW_some] <;> rfl), (qr HO165), (qs HB)⟩
       ·rw [if_neg c12] at H
        exact absurd H (by simp)
      ·rw [if_neg c11] at H
       exact absurd H (by simp)
     ·rw [if_neg c8] at H
      exact absurd H (by simp)
    ·rw [if_neg c6] at H
     exact absurd H (by simp)
   ·rw [if_neg c5] at H
    exact absurd H (by simp)
def nat_Cmp.l0 : Nat → List Int → List Int → Int → Option (Int)
 | 0, _, _, _ => none
 | k + 1, x0, x1, x5 => if x5 ≥ 0 then (if 0 ≤ x5 then (if x5 < (x0.length : Int) then (if x5 < (x1.length : Int) then (if (rd x0 x5) < (rd x1 x5) then (some (-1)) else (if (rd x0 x5) > (rd x1 x5) then (some 1) else (nat_Cmp.l0 k x0 x1 (wrap64 (x5 - 1))))) else (none)) else (none)) else (none)) else (some 0)
def nat_Cmp.f (k : Nat) (l0 : List Int) (l1 : List Int) : Option (Int) := (nat_rights.f k (([l0, l1] : List (List Int)))).bind fun t170 => (if t170 = true then (if (l0.length : Int) = (l1.length : Int) then (nat_Cmp.l0 k l0 l1 (wrap64 ((l0.length : Int) - 1))) else (some (mn (mx (wrap64 ((l0.length : Int) - (l1.length : Int))) (-1)) 1))) else (some 0))
theorem nat_Cmp.mono_l : ∀ k, (∀ y0 y1 y2, LeO (nat_Cmp.l0 k y0 y1 y2) (nat_Cmp.l0 (k + 1) y0 y1 y2))
 | 0 => fun _ _ _ r h => by simp [nat_Cmp.l0] at h
 | k + 1 => by
  have ih0 := nat_Cmp.mono_l k
  ·intro y0 y1 y2
   unfold nat_Cmp.l0
   repeat' first
   | (with_reducible exact ih0 _ _ _)
   | (with_reducible exact nat_rights.mono _ _)
   | (with_reducible exact LeO.refl _)
   | (with_reducible exact LeO.none _)
   | (with_reducible refine LeO.ite ?_ ?_)
   | (with_reducible refine LeO.bind ?_ (fun _ => ?_))
   | exact ih0 _ _ _
   | exact nat_rights.mono _ _
   | exact LeO.none _
   | refine LeO.ite ?_ ?_
   | refine LeO.bind ?_ (fun _ => ?_)
theorem nat_Cmp.mono : ∀ a0 a1 k, LeO (nat_Cmp.f k a0 a1) (nat_Cmp.f (k + 1) a0 a1) := by
 intro a0 a1 k
 have ih0 := nat_Cmp.mono_l k
 unfold nat_Cmp.f
 repeat' first
   | (with_reducible exact ih0 _ _ _)
   | (with_reducible exact nat_rights.mono _ _)
   | (with_reducible exact LeO.refl _)
   | (with_reducible exact LeO.none _)
   | (with_reducible refine LeO.ite ?_ ?_)
   | (with_reducible refine LeO.bind ?_ (fun _ => ?_))
   | exact ih0 _ _ _
   | exact nat_rights.mono _ _
   | exact LeO.none _
   | refine LeO.ite ?_ ?_
   | refine LeO.bind ?_ (fun _ => ?_)
set_option maxHeartbeats 8000000 in
set_option maxRecDepth 100000 in
theorem nat_Cmp.calls (k : Nat) (P0_ : Nat → Prop) (A0 : Option Addr) (c0 : Nat) (l0 : List Int) (P1_ : Nat → Prop) (A1 : Option Addr) (c1 : Nat) (l1 : List Int) (r : Int) (w : World) (hs0 : Kd.V (Kd.int .u32) 89 w w.heap.size (fun k_ => P0_ k_) (.slice A0 l0.length c0) l0) (hs1 : Kd.V (Kd.int .u32) 89 w w.heap.size (fun k_ => P1_ k_) (.slice A1 l1.length c1) l1) (h : nat_Cmp.f k l0 l1 = some r) :
  Calls Tryz.prog 108 #[.slice A0 l0.length c0, .slice A1 l1.length c1] w fun e w' => e = .returned (.int .i64 r) ∧ Below w.heap.size w w' := by
 have HO0 := Aside0.mk (show Kd.V (Kd.int .u32) 89 w w.heap.size (fun k_ => ((P0_ k_ ∨ P1_ k_) ∨ w.heap.size ≤ k_)) (.slice A0 l0.length c0) l0 from Kd.V_mono hs0 (fun k_ hk => .inl (.inl hk)))
 have HO1 := Aside0.mk (show Kd.V (Kd.int .u32) 89 w w.heap.size (fun k_ => ((P0_ k_ ∨ P1_ k_) ∨ w.heap.size ≤ k_)) (.slice A1 l1.length c1) l1 from Kd.V_mono hs1 (fun k_ hk => .inl (.inr hk)))
 have HB := Aside0.mk (Below.refl w.heap.size w)
 have H : ((nat_rights.f k (([l0, l1] : List (List Int)))).bind fun t170 => (if t170 = true then (if (l0.length : Int) = (l1.length : Int) then (nat_Cmp.l0 k l0 l1 (wrap64 ((l0.length : Int) - 1))) else (some (mn (mx (wrap64 ((l0.length : Int) - (l1.length : Int))) (-1)) 1))) else (some 0))) = some r := h
 clear h
 obtain ⟨y167, hy167⟩ : ∃ y_ : List (List Int), y_ = (([l0, l1] : List (List Int))) := ⟨_, rfl⟩
 replace H : ((nat_rights.f k y167).bind fun t170 => (if t170 = true then (if (l0.length : Int) = (l1.length : Int) then (nat_Cmp.l0 k l0 l1 (wrap64 ((l0.length : Int) - 1))) else (some (mn (mx (wrap64 ((l0.length : Int) - (l1.length : Int))) (-1)) 1))) else (some 0))) = some r := by first | (rw [hy167]; with_reducible exact H) | (have H2_ := (Option.bind_some _ _).symm.trans H; rw [hy167]; with_reducible exact H2_) | (have H2_ := (Option.bind_some _ _).symm.trans H; with_reducible exact H2_) | with_reducible exact H | (rw [hy167]; exact H) | exact H
 have Ny167 := Aside0.mk hy167
 clear hy167
 replace H := Option.bind_eq_some_iff.mp H
 obtain ⟨t170, A30, H⟩ := H
 try dsimp only at H
 have A3 := Aside0.mk A30
 clear A30
 by_cases c4 : t170 = true
 ·subst c4
  have H1 : (if (l0.length : Int) = (l1.length : Int) then (nat_Cmp.l0 k l0 l1 (wrap64 ((l0.length : Int) - 1))) else (some (mn (mx (wrap64 ((l0.length : Int) - (l1.length : Int))) (-1)) 1))) = some r := by rw [if_pos rfl] at H; exact H
  clear H
  have H := H1
  clear H1
  by_cases c5 : (l0.length : Int) = (l1.length : Int)
  ·rw [if_pos c5] at H
   have c5b0 : ((l0.length : Int) == (l1.length : Int)) = true := beq_iff_eq.mpr c5
   have c5b1 : ((l0.length : Int) != (l1.length : Int)) = false := bne_eq_false_iff_eq.mpr c5
   have c5b2 : (l0.length == l1.length) = true := by first | simpa using c5 | (simp at c5 ⊢; omega)
   clear c5
   have H' := Aside0.mk H
   clear H
   go_enter Tryz.func108, Tryz.ntmps108
   go_wp2_with (first | ((with_reducible refine qd 8 ?_); refine Kd.N_lit (Kd.slice 89 (Kd.int .u32)) _ 44 ?hg (N' := 8) ?hd (xs := ([l0, l1] : List (List Int))) (inner := [.slice A0 l0.length c0, .slice A1 l1.length c1]) (ok := (fun k_ => ((P0_ k_ ∨ P1_ k_) ∨ w.heap.size ≤ k_))) (okp := (fun k_ => ((P0_ k_ ∨ P1_ k_) ∨ w.heap.size ≤ k_))) ?hr ?hp (fun _ hk => hk) ((show ∀ k_, w.heap.size ≤ k_ → (fun k_ => ((P0_ k_ ∨ P1_ k_) ∨ w.heap.size ≤ k_)) k_ from fun k_ hk => (.inr (Nat.le_trans (below_size (qs HB)) hk))) _ (Nat.le_refl _)) (Below.refl _ _) (Nat.le_refl _) (by simp) ?_; (case hd => rfl); (case hg => rfl); (case hr => first | (go_simp; done) | (go_simp; rfl)); (case hp => exact (Reps.one ((Kd.FK_slice_mk (Kd.V_reads' (Kd.V_mono (ok' := (fun k_ => ((P0_ k_ ∨ P1_ k_) ∨ w.heap.size ≤ k_))) (HO0.out) (fun k_ hk => hk))).2.1 (Kd.V_F (e := 89) (base := w.heap.size) (Kd.V_mono (ok := (fun k_ => ((P0_ k_ ∨ P1_ k_) ∨ w.heap.size ≤ k_))) (ok' := (fun k_ => ((P0_ k_ ∨ P1_ k_) ∨ w.heap.size ≤ k_))) (by repeat (first | exact HO0.out | apply Kd.V_drewN | apply Kd.V_alloc | apply Kd.V_drew)) (fun k_ hk => hk)))) : Kd.FK (Kd.slice 89 (Kd.int .u32)) _ _ l0 [.slice A0 l0.length c0]) (Reps.one ((Kd.FK_slice_mk (Kd.V_reads' (Kd.V_mono (ok' := (fun k_ => ((P0_ k_ ∨ P1_ k_) ∨ w.heap.size ≤ k_))) (HO1.out) (fun k_ hk => hk))).2.1 (Kd.V_F (e := 89) (base := w.heap.size) (Kd.V_mono (ok := (fun k_ => ((P0_ k_ ∨ P1_ k_) ∨ w.heap.size ≤ k_))) (ok' := (fun k_ => ((P0_ k_ ∨ P1_ k_) ∨ w.heap.size ≤ k_))) (by repeat (first | exact HO1.out | apply Kd.V_drewN | apply Kd.V_alloc | apply Kd.V_drew)) (fun k_ hk => hk)))) : Kd.FK (Kd.slice 89 (Kd.int .u32)) _ _ l1 [.slice A1 l1.length c1]) (Reps.none _ _)))); intro v168 w6 ho7 hb hg_ hnew_; clear hg_ hnew_; (first | rw [← Ny167.out] at ho7 | (simp only [Int.reduceToNat] at ho7; rw [← Ny167.out] at ho7)); replace HO0 := Aside0.mk (Kd.V_elder' (qv HO0) (Kd.N_base ho7) hb); replace HO1 := Aside0.mk (Kd.V_elder' (qv HO1) (Kd.N_base ho7) hb); have HO169 := Aside0.mk (Kd.N_lower ho7 (below_size (qs HB))); replace HB := Aside0.mk (below_step (qs HB) hb); clear hb ho7; obtain ⟨Ao8, co8, eo8⟩ := Kd.N_slice HO169.out; subst eo8) | (go_at_call 107; (with_reducible refine (nat_rights.calls k _ _ y167 true _ ?side1 ?side2 A3.out).mono ?_); (case side1 => repeat (first | exact (Kd.N_reads' HO169.out).2.2 | (with_reducible refine Kd.C_alloc ?_ _) | (with_reducible refine Kd.C_drewN ?_ _) | (with_reducible refine Kd.C_drew ?_))); (case side2 => exact (Kd.N_reads' HO169.out).2.1); rintro e w9 ⟨rfl, hb⟩; replace HO0 := Aside0.mk (Kd.V_below (qv HO0) hb); replace HO1 := Aside0.mk (Kd.V_below (qv HO1) hb); replace HO169 := Aside0.mk (Kd.N_below (qn HO169) hb); replace HB := Aside0.mk (below_step (qs HB) hb); (try clear hb); (try clear hb2); (try clear hk); (try clear hi)))
   repeat (go_quiet (first | ((with_reducible refine qd 8 ?_); refine Kd.N_lit (Kd.slice 89 (Kd.int .u32)) _ 44 ?hg (N' := 8) ?hd (xs := ([l0, l1] : List (List Int))) (inner := [.slice A0 l0.length c0, .slice A1 l1.length c1]) (ok := (fun k_ => ((P0_ k_ ∨ P1_ k_) ∨ w.heap.size ≤ k_))) (okp := (fun k_ => ((P0_ k_ ∨ P1_ k_) ∨ w.heap.size ≤ k_))) ?hr ?hp (fun _ hk => hk) ((show ∀ k_, w.heap.size ≤ k_ → (fun k_ => ((P0_ k_ ∨ P1_ k_) ∨ w.heap.size ≤ k_)) k_ from fun k_ hk => (.inr (Nat.le_trans (below_size (qs HB)) hk))) _ (Nat.le_refl _)) (Below.refl _ _) (Nat.le_refl _) (by simp) ?_; (case hd => rfl); (case hg => rfl); (case hr => first | (go_simp; done) | (go_simp; rfl)); (case hp => exact (Reps.one ((Kd.FK_slice_mk (Kd.V_reads' (Kd.V_mono (ok' := (fun k_ => ((P0_ k_ ∨ P1_ k_) ∨ w.heap.size ≤ k_))) (HO0.out) (fun k_ hk => hk))).2.1 (Kd.V_F (e := 89) (base := w.heap.size) (Kd.V_mono (ok := (fun k_ => ((P0_ k_ ∨ P1_ k_) ∨ w.heap.size ≤ k_))) (ok' := (fun k_ => ((P0_ k_ ∨ P1_ k_) ∨ w.heap.size ≤ k_))) (by repeat (first | exact HO0.out | apply Kd.V_drewN | apply Kd.V_alloc | apply Kd.V_drew)) (fun k_ hk => hk)))) : Kd.FK (Kd.slice 89 (Kd.int .u32)) _ _ l0 [.slice A0 l0.length c0]) (Reps.one ((Kd.FK_slice_mk (Kd.V_reads' (Kd.V_mono (ok' := (fun k_ => ((P0_ k_ ∨ P1_ k_) ∨ w.heap.size ≤ k_))) (HO1.out) (fun k_ hk => hk))).2.1 (Kd.V_F (e := 89) (base := w.heap.size) (Kd.V_mono (ok := (fun k_ => ((P0_ k_ ∨ P1_ k_) ∨ w.heap.size ≤ k_))) (ok' := (fun k_ => ((P0_ k_ ∨ P1_ k_) ∨ w.heap.size ≤ k_))) (by repeat (first | exact HO1.out | apply Kd.V_drewN | apply Kd.V_alloc | apply Kd.V_drew)) (fun k_ hk => hk)))) : Kd.FK (Kd.slice 89 (Kd.int .u32)) _ _ l1 [.slice A1 l1.length c1]) (Reps.none _ _)))); intro v168 w6 ho7 hb hg_ hnew_; clear hg_ hnew_; (first | rw [← Ny167.out] at ho7 | (simp only [Int.reduceToNat] at ho7; rw [← Ny167.out] at ho7)); replace HO0 := Aside0.mk (Kd.V_elder' (qv HO0) (Kd.N_base ho7) hb); replace HO1 := Aside0.mk (Kd.V_elder' (qv HO1) (Kd.N_base ho7) hb); have HO169 := Aside0.mk (Kd.N_lower ho7 (below_size (qs HB))); replace HB := Aside0.mk (below_step (qs HB) hb); clear hb ho7; obtain ⟨Ao8, co8, eo8⟩ := Kd.N_slice HO169.out; subst eo8) | (go_at_call 107; (with_reducible refine (nat_rights.calls k _ _ y167 true _ ?side1 ?side2 A3.out).mono ?_); (case side1 => repeat (first | exact (Kd.N_reads' HO169.out).2.2 | (with_reducible refine Kd.C_alloc ?_ _) | (with_reducible refine Kd.C_drewN ?_ _) | (with_reducible refine Kd.C_drew ?_))); (case side2 => exact (Kd.N_reads' HO169.out).2.1); rintro e w9 ⟨rfl, hb⟩; replace HO0 := Aside0.mk (Kd.V_below (qv HO0) hb); replace HO1 := Aside0.mk (Kd.V_below (qv HO1) hb); replace HO169 := Aside0.mk (Kd.N_below (qn HO169) hb); replace HB := Aside0.mk (below_step (qs HB) hb); (try clear hb); (try clear hb2); (try clear hk); (try clear hi))); try go_wp2_with (first | ((with_reducible refine qd 8 ?_); refine Kd.N_lit (Kd.slice 89 (Kd.int .u32)) _ 44 ?hg (N' := 8) ?hd (xs := ([l0, l1] : List (List Int))) (inner := [.slice A0 l0.length c0, .slice A1 l1.length c1]) (ok := (fun k_ => ((P0_ k_ ∨ P1_ k_) ∨ w.heap.size ≤ k_))) (okp := (fun k_ => ((P0_ k_ ∨ P1_ k_) ∨ w.heap.size ≤ k_))) ?hr ?hp (fun _ hk => hk) ((show ∀ k_, w.heap.size ≤ k_ → (fun k_ => ((P0_ k_ ∨ P1_ k_) ∨ w.heap.size ≤ k_)) k_ from fun k_ hk => (.inr (Nat.le_trans (below_size (qs HB)) hk))) _ (Nat.le_refl _)) (Below.refl _ _) (Nat.le_refl _) (by simp) ?_; (case hd => rfl); (case hg => rfl); (case hr => first | (go_simp; done) | (go_simp; rfl)); (case hp => exact (Reps.one ((Kd.FK_slice_mk (Kd.V_reads' (Kd.V_mono (ok' := (fun k_ => ((P0_ k_ ∨ P1_ k_) ∨ w.heap.size ≤ k_))) (HO0.out) (fun k_ hk => hk))).2.1 (Kd.V_F (e := 89) (base := w.heap.size) (Kd.V_mono (ok := (fun k_ => ((P0_ k_ ∨ P1_ k_) ∨ w.heap.size ≤ k_))) (ok' := (fun k_ => ((P0_ k_ ∨ P1_ k_) ∨ w.heap.size ≤ k_))) (by repeat (first | exact HO0.out | apply Kd.V_drewN | apply Kd.V_alloc | apply Kd.V_drew)) (fun k_ hk => hk)))) : Kd.FK (Kd.slice 89 (Kd.int .u32)) _ _ l0 [.slice A0 l0.length c0]) (Reps.one ((Kd.FK_slice_mk (Kd.V_reads' (Kd.V_mono (ok' := (fun k_ => ((P0_ k_ ∨ P1_ k_) ∨ w.heap.size ≤ k_))) (HO1.out) (fun k_ hk => hk))).2.1 (Kd.V_F (e := 89) (base := w.heap.size) (Kd.V_mono (ok := (fun k_ => ((P0_ k_ ∨ P1_ k_) ∨ w.heap.size ≤ k_))) (ok' := (fun k_ => ((P0_ k_ ∨ P1_ k_) ∨ w.heap.size ≤ k_))) (by repeat (first | exact HO1.out | apply Kd.V_drewN | apply Kd.V_alloc | apply Kd.V_drew)) (fun k_ hk => hk)))) : Kd.FK (Kd.slice 89 (Kd.int .u32)) _ _ l1 [.slice A1 l1.length c1]) (Reps.none _ _)))); intro v168 w6 ho7 hb hg_ hnew_; clear hg_ hnew_; (first | rw [← Ny167.out] at ho7 | (simp only [Int.reduceToNat] at ho7; rw [← Ny167.out] at ho7)); replace HO0 := Aside0.mk (Kd.V_elder' (qv HO0) (Kd.N_base ho7) hb); replace HO1 := Aside0.mk (Kd.V_elder' (qv HO1) (Kd.N_base ho7) hb); have HO169 := Aside0.mk (Kd.N_lower ho7 (below_size (qs HB))); replace HB := Aside0.mk (below_step (qs HB) hb); clear hb ho7; obtain ⟨Ao8, co8, eo8⟩ := Kd.N_slice HO169.out; subst eo8) | (go_at_call 107; (with_reducible refine (nat_rights.calls k _ _ y167 true _ ?side1 ?side2 A3.out).mono ?_); (case side1 => repeat (first | exact (Kd.N_reads' HO169.out).2.2 | (with_reducible refine Kd.C_alloc ?_ _) | (with_reducible refine Kd.C_drewN ?_ _) | (with_reducible refine Kd.C_drew ?_))); (case side2 => exact (Kd.N_reads' HO169.out).2.1); rintro e w9 ⟨rfl, hb⟩; replace HO0 := Aside0.mk (Kd.V_below (qv HO0) hb); replace HO1 := Aside0.mk (Kd.V_below (qv HO1) hb); replace HO169 := Aside0.mk (Kd.N_below (qn HO169) hb); replace HB := Aside0.mk (below_step (qs HB) hb); (try clear hb); (try clear hb2); (try clear hk); (try clear hi))))
   go_loopg [5] k (fun kq v5 w' => ∃ (x5_1 : Int), v5 = .int .i64 x5_1 ∧ Aside0 (nat_Cmp.l0 kq l0 l1 x5_1 = some r) ∧ Aside0 (kq ≤ k) ∧ Aside0 (Kd.V (Kd.int .u32) 89 w' w.heap.size (fun k_ => ((P0_ k_ ∨ P1_ k_) ∨ w.heap.size ≤ k_)) (.slice A0 l0.length c0) l0) ∧ Aside0 (Kd.V (Kd.int .u32) 89 w' w.heap.size (fun k_ => ((P0_ k_ ∨ P1_ k_) ∨ w.heap.size ≤ k_)) (.slice A1 l1.length c1) l1) ∧ Aside0 (Below w.heap.size w w'))
   case atStart => exact ⟨(wrap64 ((l0.length : Int) - 1)), (by first | rfl | (simp; done) | (simp [*]; done)), H', ⟨Nat.le_refl _⟩, ⟨by (with_reducible repeat (first | apply Kd.V_alloc | apply Kd.V_drewN | apply Kd.V_drew)); exact Kd.V_mono HO0.out (fun _ hk => hk.1)⟩, ⟨by (with_reducible repeat (first | apply Kd.V_alloc | apply Kd.V_drewN | apply Kd.V_drew)); exact Kd.V_mono HO1.out (fun _ hk => hk.1)⟩, ⟨(qs HB)⟩⟩
   case round =>
    clear H'
    try clear c1
    try clear p2
    try clear c4
    try clear c5
    try clear c5b0
    try clear c5b1
    try clear c5b2
    try clear p6
    obtain ⟨x5_1, rfl, HA, HK1, HO_0, HO_1, HB⟩ := hrel
    cases gk with
    | zero => exact absurd HA.out (by simp [nat_Cmp.l0])
    | succ k1 =>
     have H := HA.out
     clear HA
     simp only [nat_Cmp.l0] at H
     by_cases c10 : x5_1 ≥ 0
     ·rw [if_pos c10] at H
      have c10b0 : decide (0 ≤ x5_1) = true := decide_eq_true c10
      clear c10
      by_cases c11 : 0 ≤ x5_1
      ·rw [if_pos c11] at H
       have c11b0 : decide (0 ≤ x5_1) = true := decide_eq_true c11
       clear c11
       by_cases c12 : x5_1 < (l0.length : Int)
       ·rw [if_pos c12] at H
        have c12b0 : decide (x5_1 < (l0.length : Int)) = true := decide_eq_true c12
        clear c12
        by_cases c13 : x5_1 < (l1.length : Int)
        ·rw [if_pos c13] at H
         have c13b0 : decide (x5_1 < (l1.length : Int)) = true := decide_eq_true c13
         clear c13
         by_cases c14 : (rd l0 x5_1) < (rd l1 x5_1)
         ·rw [if_pos c14] at H
          have c14b0 : decide ((rd l0 x5_1) < (rd l1 x5_1)) = true := decide_eq_true c14
          clear c14
          obtain rfl := Option.some.inj H
          have p171 : 0 ≤ (x5_1 : Int) := of_decide_eq_true qa
          have q171 : x5_1 < (l0.length : Int) := of_decide_eq_true qa
          obtain ⟨ad171, e171, hx171_0⟩ := Kd.at_int (Kd.V_reads' HO_0.out).2.2 x5_1 p171 q171
          cases e171
          replace p171 := eq_true p171
          replace q171 := eq_true q171
          have p172 : 0 ≤ (x5_1 : Int) := of_decide_eq_true qa
          have q172 : x5_1 < (l1.length : Int) := of_decide_eq_true qa
          obtain ⟨ad172, e172, hx172_0⟩ := Kd.at_int (Kd.V_reads' HO_1.out).2.2 x5_1 p172 q172
          cases e172
          replace p172 := eq_true p172
          replace q172 := eq_true q172
          go_wp2
          repeat (go_quiet (fail); try go_wp2)
          go_ret
          exact ⟨by first | rfl | (simp [errW_none, errW_some] <;> rfl) | (simp [*, errW_none, errW_some] <;> rfl), (qs HB)⟩
         ·rw [if_neg c14] at H
          have c14b0 : decide ((rd l0 x5_1) < (rd l1 x5_1)) = false := decide_eq_false c14
          clear c14
          by_cases c15 : (rd l0 x5_1) > (rd l1 x5_1)
          ·rw [if_pos c15] at H
           have c15b0 : decide ((rd l1 x5_1) < (rd l0 x5_1)) = true := decide_eq_true c15
           clear c15
           obtain rfl := Option.some.inj H
           have p171 : 0 ≤ (x5_1 : Int) := of_decide_eq_true qa
           have q171 : x5_1 < (l0.length : Int) := of_decide_eq_true qa
           obtain ⟨ad171, e171, hx171_0⟩ := Kd.at_int (Kd.V_reads' HO_0.out).2.2 x5_1 p171 q171
           cases e171
           replace p171 := eq_true p171
           replace q171 := eq_true q171
           have p172 : 0 ≤ (x5_1 : Int) := of_decide_eq_true qa
           have q172 : x5_1 < (l1.length : Int) := of_decide_eq_true qa
           obtain ⟨ad172, e172, hx172_0⟩ := Kd.at_int (Kd.V_reads' HO_1.out).2.2 x5_1 p172 q172
           cases e172
           replace p172 := eq_true p172
           replace q172 := eq_true q172
           have p173 : 0 ≤ (x5_1 : Int) := of_decide_eq_true qa
           have q173 : x5_1 < (l0.length : Int) := of_decide_eq_true qa
           obtain ⟨ad173, e173, hx173_0⟩ := Kd.at_int (Kd.V_reads' HO_0.out).2.2 x5_1 p173 q173
           obtain rfl : ad171 = ad173 := (by injection e173)
           replace p173 := eq_true p173
           replace q173 := eq_true q173
           have p174 : 0 ≤ (x5_1 : Int) := of_decide_eq_true qa
           have q174 : x5_1 < (l1.length : Int) := of_decide_eq_true qa
           obtain ⟨ad174, e174, hx174_0⟩ := Kd.at_int (Kd.V_reads' HO_1.out).2.2 x5_1 p174 q174
           obtain rfl : ad172 = ad174 := (by injection e174)
           replace p174 := eq_true p174
           replace q174 := eq_true q174
           go_wp2
           repeat (go_quiet (fail); try go_wp2)
           go_ret
           exact ⟨by first | rfl | (simp [errW_none, errW_some] <;> rfl) | (simp [*, errW_none, errW_some] <;> rfl), (qs HB)⟩
          ·rw [if_neg c15] at H
           have c15b0 : decide ((rd l1 x5_1) < (rd l0 x5_1)) = false := decide_eq_false c15
           clear c15
           have H' := Aside0.mk H
           clear H
           have p171 : 0 ≤ (x5_1 : Int) := of_decide_eq_true qa
           have q171 : x5_1 < (l0.length : Int) := of_decide_eq_true qa
           obtain ⟨ad171, e171, hx171_0⟩ := Kd.at_int (Kd.V_reads' HO_0.out).2.2 x5_1 p171 q171
           cases e171
           replace p171 := eq_true p171
           replace q171 := eq_true q171
           have p172 : 0 ≤ (x5_1 : Int) := of_decide_eq_true qa
           have q172 : x5_1 < (l1.length : Int) := of_decide_eq_true qa
           obtain ⟨ad172, e172, hx172_0⟩ := Kd.at_int (Kd.V_reads' HO_1.out).2.2 x5_1 p172 q172
           cases e172
           replace p172 := eq_true p172
           replace q172 := eq_true q172
           have p173 : 0 ≤ (x5_1 : Int) := of_decide_eq_true qa
           have q173 : x5_1 < (l0.length : Int) := of_decide_eq_true qa
           obtain ⟨ad173, e173, hx173_0⟩ := Kd.at_int (Kd.V_reads' HO_0.out).2.2 x5_1 p173 q173
           obtain rfl : ad171 = ad173 := (by injection e173)
           replace p173 := eq_true p173
           replace q173 := eq_true q173
           have p174 : 0 ≤ (x5_1 : Int) := of_decide_eq_true qa
           have q174 : x5_1 < (l1.length : Int) := of_decide_eq_true qa
           obtain ⟨ad174, e174, hx174_0⟩ := Kd.at_int (Kd.V_reads' HO_1.out).2.2 x5_1 p174 q174
           obtain rfl : ad172 = ad174 := (by injection e174)
           replace p174 := eq_true p174
           replace q174 := eq_true q174
           go_wp2
           repeat (go_quiet (fail); try go_wp2)
           go_roundg k1
           case measure => have := HK1.out; omega
           case rel => exact ⟨(wrap64 (x5_1 - 1)), (by first | rfl | (simp; done) | (simp [*]; done)), H', ⟨by have := HK1.out; omega⟩, ⟨(qv HO_0)⟩, ⟨(qv HO_1)⟩, ⟨(qs HB)⟩⟩
        ·rw [if_neg c13] at H
         exact absurd H (by simp)
       ·rw [if_neg c12] at H
        exact absurd H (by simp)
      ·rw [if_neg c11] at H
       exact absurd H (by simp)
     ·rw [if_neg c10] at H
      have c10b0 : decide (0 ≤ x5_1) = false := decide_eq_false c10
      clear c10
      obtain rfl := Option.some.inj H
      go_wp2
      repeat (go_quiet (fail); try go_wp2)
      go_ret
      exact ⟨by first | rfl | (simp [errW_none, errW_some] <;> rfl) | (simp [*, errW_none, errW_some] <;> rfl), (qs HB)⟩
  ·rw [if_neg c5] at H
   have c5b0 : ((l0.length : Int) == (l1.length : Int)) = false := beq_eq_false_iff_ne.mpr c5
   have c5b1 : ((l0.length : Int) != (l1.length : Int)) = true := bne_iff_ne.mpr c5
   have c5b2 : (l0.length == l1.length) = false := by first | simpa using c5 | (simp at c5 ⊢; omega)
   obtain ⟨ji16, hji16⟩ : ∃ j_ : Int, (mx (wrap64 ((l0.length : Int) - (l1.length : Int))) (-1)) = j_ := ⟨_, rfl⟩
   replace H : (some (mn (ji16) 1)) = some r := by first | (rw [hji16] at H; exact H) | (simp only [hji16] at H ⊢; exact H)
   (try rw [hji16] at A3)
   have hji16_ : (if (wrap64 ((l0.length : Int) - (l1.length : Int))) < (-1) then (-1) else (wrap64 ((l0.length : Int) - (l1.length : Int)))) = ji16 := hji16
   obtain ⟨ji17, hji17⟩ : ∃ j_ : Int, (mn (ji16) 1) = j_ := ⟨_, rfl⟩
   replace H : (some ji17) = some r := by first | (rw [hji17] at H; exact H) | (simp only [hji17] at H ⊢; exact H)
   (try rw [hji17] at A3)
   have hji17_ : (if 1 < (ji16) then 1 else (ji16)) = ji17 := hji17
   obtain rfl := Option.some.inj H
   go_enter Tryz.func108, Tryz.ntmps108
   go_wp2_with (first | ((with_reducible refine qd 8 ?_); refine Kd.N_lit (Kd.slice 89 (Kd.int .u32)) _ 44 ?hg (N' := 8) ?hd (xs := ([l0, l1] : List (List Int))) (inner := [.slice A0 l0.length c0, .slice A1 l1.length c1]) (ok := (fun k_ => ((P0_ k_ ∨ P1_ k_) ∨ w.heap.size ≤ k_))) (okp := (fun k_ => ((P0_ k_ ∨ P1_ k_) ∨ w.heap.size ≤ k_))) ?hr ?hp (fun _ hk => hk) ((show ∀ k_, w.heap.size ≤ k_ → (fun k_ => ((P0_ k_ ∨ P1_ k_) ∨ w.heap.size ≤ k_)) k_ from fun k_ hk => (.inr (Nat.le_trans (below_size (qs HB)) hk))) _ (Nat.le_refl _)) (Below.refl _ _) (Nat.le_refl _) (by simp) ?_; (case hd => rfl); (case hg => rfl); (case hr => first | (go_simp; done) | (go_simp; rfl)); (case hp => exact (Reps.one ((Kd.FK_slice_mk (Kd.V_reads' (Kd.V_mono (ok' := (fun k_ => ((P0_ k_ ∨ P1_ k_) ∨ w.heap.size ≤ k_))) (HO0.out) (fun k_ hk => hk))).2.1 (Kd.V_F (e := 89) (base := w.heap.size) (Kd.V_mono (ok := (fun k_ => ((P0_ k_ ∨ P1_ k_) ∨ w.heap.size ≤ k_))) (ok' := (fun k_ => ((P0_ k_ ∨ P1_ k_) ∨ w.heap.size ≤ k_))) (by repeat (first | exact HO0.out | apply Kd.V_drewN | apply Kd.V_alloc | apply Kd.V_drew)) (fun k_ hk => hk)))) : Kd.FK (Kd.slice 89 (Kd.int .u32)) _ _ l0 [.slice A0 l0.length c0]) (Reps.one ((Kd.FK_slice_mk (Kd.V_reads' (Kd.V_mono (ok' := (fun k_ => ((P0_ k_ ∨ P1_ k_) ∨ w.heap.size ≤ k_))) (HO1.out) (fun k_ hk => hk))).2.1 (Kd.V_F (e := 89) (base := w.heap.size) (Kd.V_mono (ok := (fun k_ => ((P0_ k_ ∨ P1_ k_) ∨ w.heap.size ≤ k_))) (ok' := (fun k_ => ((P0_ k_ ∨ P1_ k_) ∨ w.heap.size ≤ k_))) (by repeat (first | exact HO1.out | apply Kd.V_drewN | apply Kd.V_alloc | apply Kd.V_drew)) (fun k_ hk => hk)))) : Kd.FK (Kd.slice 89 (Kd.int .u32)) _ _ l1 [.slice A1 l1.length c1]) (Reps.none _ _)))); intro v168 w18 ho19 hb hg_ hnew_; clear hg_ hnew_; (first | rw [← Ny167.out] at ho19 | (simp only [Int.reduceToNat] at ho19; rw [← Ny167.out] at ho19)); replace HO0 := Aside0.mk (Kd.V_elder' (qv HO0) (Kd.N_base ho19) hb); replace HO1 := Aside0.mk (Kd.V_elder' (qv HO1) (Kd.N_base ho19) hb); have HO169 := Aside0.mk (Kd.N_lower ho19 (below_size (qs HB))); replace HB := Aside0.mk (below_step (qs HB) hb); clear hb ho19; obtain ⟨Ao20, co20, eo20⟩ := Kd.N_slice HO169.out; subst eo20) | (go_at_call 107; (with_reducible refine (nat_rights.calls k _ _ y167 true _ ?side1 ?side2 A3.out).mono ?_); (case side1 => repeat (first | exact (Kd.N_reads' HO169.out).2.2 | (with_reducible refine Kd.C_alloc ?_ _) | (with_reducible refine Kd.C_drewN ?_ _) | (with_reducible refine Kd.C_drew ?_))); (case side2 => exact (Kd.N_reads' HO169.out).2.1); rintro e w21 ⟨rfl, hb⟩; replace HO0 := Aside0.mk (Kd.V_below (qv HO0) hb); replace HO1 := Aside0.mk (Kd.V_below (qv HO1) hb); replace HO169 := Aside0.mk (Kd.N_below (qn HO169) hb); replace HB := Aside0.mk (below_step (qs HB) hb); (try clear hb); (try clear hb2); (try clear hk); (try clear hi)))
   repeat (go_quiet (first | ((with_reducible refine qd 8 ?_); refine Kd.N_lit (Kd.slice 89 (Kd.int .u32)) _ 44 ?hg (N' := 8) ?hd (xs := ([l0, l1] : List (List Int))) (inner := [.slice A0 l0.length c0, .slice A1 l1.length c1]) (ok := (fun k_ => ((P0_ k_ ∨ P1_ k_) ∨ w.heap.size ≤ k_))) (okp := (fun k_ => ((P0_ k_ ∨ P1_ k_) ∨ w.heap.size ≤ k_))) ?hr ?hp (fun _ hk => hk) ((show ∀ k_, w.heap.size ≤ k_ → (fun k_ => ((P0_ k_ ∨ P1_ k_) ∨ w.heap.size ≤ k_)) k_ from fun k_ hk => (.inr (Nat.le_trans (below_size (qs HB)) hk))) _ (Nat.le_refl _)) (Below.refl _ _) (Nat.le_refl _) (by simp) ?_; (case hd => rfl); (case hg => rfl); (case hr => first | (go_simp; done) | (go_simp; rfl)); (case hp => exact (Reps.one ((Kd.FK_slice_mk (Kd.V_reads' (Kd.V_mono (ok' := (fun k_ => ((P0_ k_ ∨ P1_ k_) ∨ w.heap.size ≤ k_))) (HO0.out) (fun k_ hk => hk))).2.1 (Kd.V_F (e := 89) (base := w.heap.size) (Kd.V_mono (ok := (fun k_ => ((P0_ k_ ∨ P1_ k_) ∨ w.heap.size ≤ k_))) (ok' := (fun k_ => ((P0_ k_ ∨ P1_ k_) ∨ w.heap.size ≤ k_))) (by repeat (first | exact HO0.out | apply Kd.V_drewN | apply Kd.V_alloc | apply Kd.V_drew)) (fun k_ hk => hk)))) : Kd.FK (Kd.slice 89 (Kd.int .u32)) _ _ l0 [.slice A0 l0.length c0]) (Reps.one ((Kd.FK_slice_mk (Kd.V_reads' (Kd.V_mono (ok' := (fun k_ => ((P0_ k_ ∨ P1_ k_) ∨ w.heap.size ≤ k_))) (HO1.out) (fun k_ hk => hk))).2.1 (Kd.V_F (e := 89) (base := w.heap.size) (Kd.V_mono (ok := (fun k_ => ((P0_ k_ ∨ P1_ k_) ∨ w.heap.size ≤ k_))) (ok' := (fun k_ => ((P0_ k_ ∨ P1_ k_) ∨ w.heap.size ≤ k_))) (by repeat (first | exact HO1.out | apply Kd.V_drewN | apply Kd.V_alloc | apply Kd.V_drew)) (fun k_ hk => hk)))) : Kd.FK (Kd.slice 89 (Kd.int .u32)) _ _ l1 [.slice A1 l1.length c1]) (Reps.none _ _)))); intro v168 w18 ho19 hb hg_ hnew_; clear hg_ hnew_; (first | rw [← Ny167.out] at ho19 | (simp only [Int.reduceToNat] at ho19; rw [← Ny167.out] at ho19)); replace HO0 := Aside0.mk (Kd.V_elder' (qv HO0) (Kd.N_base ho19) hb); replace HO1 := Aside0.mk (Kd.V_elder' (qv HO1) (Kd.N_base ho19) hb); have HO169 := Aside0.mk (Kd.N_lower ho19 (below_size (qs HB))); replace HB := Aside0.mk (below_step (qs HB) hb); clear hb ho19; obtain ⟨Ao20, co20, eo20⟩ := Kd.N_slice HO169.out; subst eo20) | (go_at_call 107; (with_reducible refine (nat_rights.calls k _ _ y167 true _ ?side1 ?side2 A3.out).mono ?_); (case side1 => repeat (first | exact (Kd.N_reads' HO169.out).2.2 | (with_reducible refine Kd.C_alloc ?_ _) | (with_reducible refine Kd.C_drewN ?_ _) | (with_reducible refine Kd.C_drew ?_))); (case side2 => exact (Kd.N_reads' HO169.out).2.1); rintro e w21 ⟨rfl, hb⟩; replace HO0 := Aside0.mk (Kd.V_below (qv HO0) hb); replace HO1 := Aside0.mk (Kd.V_below (qv HO1) hb); replace HO169 := Aside0.mk (Kd.N_below (qn HO169) hb); replace HB := Aside0.mk (below_step (qs HB) hb); (try clear hb); (try clear hb2); (try clear hk); (try clear hi))); try go_wp2_with (first | ((with_reducible refine qd 8 ?_); refine Kd.N_lit (Kd.slice 89 (Kd.int .u32)) _ 44 ?hg (N' := 8) ?hd (xs := ([l0, l1] : List (List Int))) (inner := [.slice A0 l0.length c0, .slice A1 l1.length c1]) (ok := (fun k_ => ((P0_ k_ ∨ P1_ k_) ∨ w.heap.size ≤ k_))) (okp := (fun k_ => ((P0_ k_ ∨ P1_ k_) ∨ w.heap.size ≤ k_))) ?hr ?hp (fun _ hk => hk) ((show ∀ k_, w.heap.size ≤ k_ → (fun k_ => ((P0_ k_ ∨ P1_ k_) ∨ w.heap.size ≤ k_)) k_ from fun k_ hk => (.inr (Nat.le_trans (below_size (qs HB)) hk))) _ (Nat.le_refl _)) (Below.refl _ _) (Nat.le_refl _) (by simp) ?_; (case hd => rfl); (case hg => rfl); (case hr => first | (go_simp; done) | (go_simp; rfl)); (case hp => exact (Reps.one ((Kd.FK_slice_mk (Kd.V_reads' (Kd.V_mono (ok' := (fun k_ => ((P0_ k_ ∨ P1_ k_) ∨ w.heap.size ≤ k_))) (HO0.out) (fun k_ hk => hk))).2.1 (Kd.V_F (e := 89) (base := w.heap.size) (Kd.V_mono (ok := (fun k_ => ((P0_ k_ ∨ P1_ k_) ∨ w.heap.size ≤ k_))) (ok' := (fun k_ => ((P0_ k_ ∨ P1_ k_) ∨ w.heap.size ≤ k_))) (by repeat (first | exact HO0.out | apply Kd.V_drewN | apply Kd.V_alloc | apply Kd.V_drew)) (fun k_ hk => hk)))) : Kd.FK (Kd.slice 89 (Kd.int .u32)) _ _ l0 [.slice A0 l0.length c0]) (Reps.one ((Kd.FK_slice_mk (Kd.V_reads' (Kd.V_mono (ok' := (fun k_ => ((P0_ k_ ∨ P1_ k_) ∨ w.heap.size ≤ k_))) (HO1.out) (fun k_ hk => hk))).2.1 (Kd.V_F (e := 89) (base := w.heap.size) (Kd.V_mono (ok := (fun k_ => ((P0_ k_ ∨ P1_ k_) ∨ w.heap.size ≤ k_))) (ok' := (fun k_ => ((P0_ k_ ∨ P1_ k_) ∨ w.heap.size ≤ k_))) (by repeat (first | exact HO1.out | apply Kd.V_drewN | apply Kd.V_alloc | apply Kd.V_drew)) (fun k_ hk => hk)))) : Kd.FK (Kd.slice 89 (Kd.int .u32)) _ _ l1 [.slice A1 l1.length c1]) (Reps.none _ _)))); intro v168 w18 ho19 hb hg_ hnew_; clear hg_ hnew_; (first | rw [← Ny167.out] at ho19 | (simp only [Int.reduceToNat] at ho19; rw [← Ny167.out] at ho19)); replace HO0 := Aside0.mk (Kd.V_elder' (qv HO0) (Kd.N_base ho19) hb); replace HO1 := Aside0.mk (Kd.V_elder' (qv HO1) (Kd.N_base ho19) hb); have HO169 := Aside0.mk (Kd.N_lower ho19 (below_size (qs HB))); replace HB := Aside0.mk (below_step (qs HB) hb); clear hb ho19; obtain ⟨Ao20, co20, eo20⟩ := Kd.N_slice HO169.out; subst eo20) | (go_at_call 107; (with_reducible refine (nat_rights.calls k _ _ y167 true _ ?side1 ?side2 A3.out).mono ?_); (case side1 => repeat (first | exact (Kd.N_reads' HO169.out).2.2 | (with_reducible refine Kd.C_alloc ?_ _) | (with_reducible refine Kd.C_drewN ?_ _) | (with_reducible refine Kd.C_drew ?_))); (case side2 => exact (Kd.N_reads' HO169.out).2.1); rintro e w21 ⟨rfl, hb⟩; replace HO0 := Aside0.mk (Kd.V_below (qv HO0) hb); replace HO1 := Aside0.mk (Kd.V_below (qv HO1) hb); replace HO169 := Aside0.mk (Kd.N_below (qn HO169) hb); replace HB := Aside0.mk (below_step (qs HB) hb); (try clear hb); (try clear hb2); (try clear hk); (try clear hi))))
   go_ret
   exact ⟨by first | rfl | (simp [errW_none, errW_some] <;> rfl) | (simp only [← hji16, ← hji17]; first | rfl | (simp [errW_none, errW_some] <;> rfl)) | (simp [*, errW_none, errW_some] <;> rfl), (qs HB)⟩
 ·replace c4 := Bool.eq_false_iff.mpr c4
  subst c4
  have H1 : (some 0) = some r := by rw [if_neg (show ¬ (false = true) by decide)] at H; exact H
  clear H
  have H := H1
  clear H1
  obtain rfl := Option.some.inj H
  go_enter Tryz.func108, Tryz.ntmps108
  go_wp2_with (first | ((with_reducible refine qd 8 ?_); refine Kd.N_lit (Kd.slice 89 (Kd.int .u32)) _ 44 ?hg (N' := 8) ?hd (xs := ([l0, l1] : List (List Int))) (inner := [.slice A0 l0.length c0, .slice A1 l1.length c1]) (ok := (fun k_ => ((P0_ k_ ∨ P1_ k_) ∨ w.heap.size ≤ k_))) (okp := (fun k_ => ((P0_ k_ ∨ P1_ k_) ∨ w.heap.size ≤ k_))) ?hr ?hp (fun _ hk => hk) ((show ∀ k_, w.heap.size ≤ k_ → (fun k_ => ((P0_ k_ ∨ P1_ k_) ∨ w.heap.size ≤ k_)) k_ from fun k_ hk => (.inr (Nat.le_trans (below_size (qs HB)) hk))) _ (Nat.le_refl _)) (Below.refl _ _) (Nat.le_refl _) (by simp) ?_; (case hd => rfl); (case hg => rfl); (case hr => first | (go_simp; done) | (go_simp; rfl)); (case hp => exact (Reps.one ((Kd.FK_slice_mk (Kd.V_reads' (Kd.V_mono (ok' := (fun k_ => ((P0_ k_ ∨ P1_ k_) ∨ w.heap.size ≤ k_))) (HO0.out) (fun k_ hk => hk))).2.1 (Kd.V_F (e := 89) (base := w.heap.size) (Kd.V_mono (ok := (fun k_ => ((P0_ k_ ∨ P1_ k_) ∨ w.heap.size ≤ k_))) (ok' := (fun k_ => ((P0_ k_ ∨ P1_ k_) ∨ w.heap.size ≤ k_))) (by repeat (first | exact HO0.out | apply Kd.V_drewN | apply Kd.V_alloc | apply Kd.V_drew)) (fun k_ hk => hk)))) : Kd.FK (Kd.slice 89 (Kd.int .u32)) _ _ l0 [.slice A0 l0.length c0]) (Reps.one ((Kd.FK_slice_mk (Kd.V_reads' (Kd.V_mono (ok' := (fun k_ => ((P0_ k_ ∨ P1_ k_) ∨ w.heap.size ≤ k_))) (HO1.out) (fun k_ hk => hk))).2.1 (Kd.V_F (e := 89) (base := w.heap.size) (Kd.V_mono (ok := (fun k_ => ((P0_ k_ ∨ P1_ k_) ∨ w.heap.size ≤ k_))) (ok' := (fun k_ => ((P0_ k_ ∨ P1_ k_) ∨ w.heap.size ≤ k_))) (by repeat (first | exact HO1.out | apply Kd.V_drewN | apply Kd.V_alloc | apply Kd.V_drew)) (fun k_ hk => hk)))) : Kd.FK (Kd.slice 89 (Kd.int .u32)) _ _ l1 [.slice A1 l1.length c1]) (Reps.none _ _)))); intro v168 w22 ho23 hb hg_ hnew_; clear hg_ hnew_; (first | rw [← Ny167.out] at ho23 | (simp only [Int.reduceToNat] at ho23; rw [← Ny167.out] at ho23)); replace HO0 := Aside0.mk (Kd.V_elder' (qv HO0) (Kd.N_base ho23) hb); replace HO1 := Aside0.mk (Kd.V_elder' (qv HO1) (Kd.N_base ho23) hb); have HO169 := Aside0.mk (Kd.N_lower ho23 (below_size (qs HB))); replace HB := Aside0.mk (below_step (qs HB) hb); clear hb ho23; obtain ⟨Ao24, co24, eo24⟩ := Kd.N_slice HO169.out; subst eo24) | (go_at_call 107; (with_reducible refine (nat_rights.calls k _ _ y167 false _ ?side1 ?side2 A3.out).mono ?_); (case side1 => repeat (first | exact (Kd.N_reads' HO169.out).2.2 | (with_reducible refine Kd.C_alloc ?_ _) | (with_reducible refine Kd.C_drewN ?_ _) | (with_reducible refine Kd.C_drew ?_))); (case side2 => exact (Kd.N_reads' HO169.out).2.1); rintro e w25 ⟨rfl, hb⟩; replace HO0 := Aside0.mk (Kd.V_below (qv HO0) hb); replace HO1 := Aside0.mk (Kd.V_below (qv HO1) hb); replace HO169 := Aside0.mk (Kd.N_below (qn HO169) hb); replace HB := Aside0.mk (below_step (qs HB) hb); (try clear hb); (try clear hb2); (try clear hk); (try clear hi)))
  repeat (go_quiet (first | ((with_reducible refine qd 8 ?_); refine Kd.N_lit (Kd.slice 89 (Kd.int .u32)) _ 44 ?hg (N' := 8) ?hd (xs := ([l0, l1] : List (List Int))) (inner := [.slice A0 l0.length c0, .slice A1 l1.length c1]) (ok := (fun k_ => ((P0_ k_ ∨ P1_ k_) ∨ w.heap.size ≤ k_))) (okp := (fun k_ => ((P0_ k_ ∨ P1_ k_) ∨ w.heap.size ≤ k_))) ?hr ?hp (fun _ hk => hk) ((show ∀ k_, w.heap.size ≤ k_ → (fun k_ => ((P0_ k_ ∨ P1_ k_) ∨ w.heap.size ≤ k_)) k_ from fun k_ hk => (.inr (Nat.le_trans (below_size (qs HB)) hk))) _ (Nat.le_refl _)) (Below.refl _ _) (Nat.le_refl _) (by simp) ?_; (case hd => rfl); (case hg => rfl); (case hr => first | (go_simp; done) | (go_simp; rfl)); (case hp => exact (Reps.one ((Kd.FK_slice_mk (Kd.V_reads' (Kd.V_mono (ok' := (fun k_ => ((P0_ k_ ∨ P1_ k_) ∨ w.heap.size ≤ k_))) (HO0.out) (fun k_ hk => hk))).2.1 (Kd.V_F (e := 89) (base := w.heap.size) (Kd.V_mono (ok := (fun k_ => ((P0_ k_ ∨ P1_ k_) ∨ w.heap.size ≤ k_))) (ok' := (fun k_ => ((P0_ k_ ∨ P1_ k_) ∨ w.heap.size ≤ k_))) (by repeat (first | exact HO0.out | apply Kd.V_drewN | apply Kd.V_alloc | apply Kd.V_drew)) (fun k_ hk => hk)))) : Kd.FK (Kd.slice 89 (Kd.int .u32)) _ _ l0 [.slice A0 l0.length c0]) (Reps.one ((Kd.FK_slice_mk (Kd.V_reads' (Kd.V_mono (ok' := (fun k_ => ((P0_ k_ ∨ P1_ k_) ∨ w.heap.size ≤ k_))) (HO1.out) (fun k_ hk => hk))).2.1 (Kd.V_F (e := 89) (base := w.heap.size) (Kd.V_mono (ok := (fun k_ => ((P0_ k_ ∨ P1_ k_) ∨ w.heap.size ≤ k_))) (ok' := (fun k_ => ((P0_ k_ ∨ P1_ k_) ∨ w.heap.size ≤ k_))) (by repeat (first | exact HO1.out | apply Kd.V_drewN | apply Kd.V_alloc | apply Kd.V_drew)) (fun k_ hk => hk)))) : Kd.FK (Kd.slice 89 (Kd.int .u32)) _ _ l1 [.slice A1 l1.length c1]) (Reps.none _ _)))); intro v168 w22 ho23 hb hg_ hnew_; clear hg_ hnew_; (first | rw [← Ny167.out] at ho23 | (simp only [Int.reduceToNat] at ho23; rw [← Ny167.out] at ho23)); replace HO0 := Aside0.mk (Kd.V_elder' (qv HO0) (Kd.N_base ho23) hb); replace HO1 := Aside0.mk (Kd.V_elder' (qv HO1) (Kd.N_base ho23) hb); have HO169 := Aside0.mk (Kd.N_lower ho23 (below_size (qs HB))); replace HB := Aside0.mk (below_step (qs HB) hb); clear hb ho23; obtain ⟨Ao24, co24, eo24⟩ := Kd.N_slice HO169.out; subst eo24) | (go_at_call 107; (with_reducible refine (nat_rights.calls k _ _ y167 false _ ?side1 ?side2 A3.out).mono ?_); (case side1 => repeat (first | exact (Kd.N_reads' HO169.out).2.2 | (with_reducible refine Kd.C_alloc ?_ _) | (with_reducible refine Kd.C_drewN ?_ _) | (with_reducible refine Kd.C_drew ?_))); (case side2 => exact (Kd.N_reads' HO169.out).2.1); rintro e w25 ⟨rfl, hb⟩; replace HO0 := Aside0.mk (Kd.V_below (qv HO0) hb); replace HO1 := Aside0.mk (Kd.V_below (qv HO1) hb); replace HO169 := Aside0.mk (Kd.N_below (qn HO169) hb); replace HB := Aside0.mk (below_step (qs HB) hb); (try clear hb); (try clear hb2); (try clear hk); (try clear hi))); try go_wp2_with (first | ((with_reducible refine qd 8 ?_); refine Kd.N_lit (Kd.slice 89 (Kd.int .u32)) _ 44 ?hg (N' := 8) ?hd (xs := ([l0, l1] : List (List Int))) (inner := [.slice A0 l0.length c0, .slice A1 l1.length c1]) (ok := (fun k_ => ((P0_ k_ ∨ P1_ k_) ∨ w.heap.size ≤ k_))) (okp := (fun k_ => ((P0_ k_ ∨ P1_ k_) ∨ w.heap.size ≤ k_))) ?hr ?hp (fun _ hk => hk) ((show ∀ k_, w.heap.size ≤ k_ → (fun k_ => ((P0_ k_ ∨ P1_ k_) ∨ w.heap.size ≤ k_)) k_ from fun k_ hk => (.inr (Nat.le_trans (below_size (qs HB)) hk))) _ (Nat.le_refl _)) (Below.refl _ _) (Nat.le_refl _) (by simp) ?_; (case hd => rfl); (case hg => rfl); (case hr => first | (go_simp; done) | (go_simp; rfl)); (case hp => exact (Reps.one ((Kd.FK_slice_mk (Kd.V_reads' (Kd.V_mono (ok' := (fun k_ => ((P0_ k_ ∨ P1_ k_) ∨ w.heap.size ≤ k_))) (HO0.out) (fun k_ hk => hk))).2.1 (Kd.V_F (e := 89) (base := w.heap.size) (Kd.V_mono (ok := (fun k_ => ((P0_ k_ ∨ P1_ k_) ∨ w.heap.size ≤ k_))) (ok' := (fun k_ => ((P0_ k_ ∨ P1_ k_) ∨ w.heap.size ≤ k_))) (by repeat (first | exact HO0.out | apply Kd.V_drewN | apply Kd.V_alloc | apply Kd.V_drew)) (fun k_ hk => hk)))) : Kd.FK (Kd.slice 89 (Kd.int .u32)) _ _ l0 [.slice A0 l0.length c0]) (Reps.one ((Kd.FK_slice_mk (Kd.V_reads' (Kd.V_mono (ok' := (fun k_ => ((P0_ k_ ∨ P1_ k_) ∨ w.heap.size ≤ k_))) (HO1.out) (fun k_ hk => hk))).2.1 (Kd.V_F (e := 89) (base := w.heap.size) (Kd.V_mono (ok := (fun k_ => ((P0_ k_ ∨ P1_ k_) ∨ w.heap.size ≤ k_))) (ok' := (fun k_ => ((P0_ k_ ∨ P1_ k_) ∨ w.heap.size ≤ k_))) (by repeat (first | exact HO1.out | apply Kd.V_drewN | apply Kd.V_alloc | apply Kd.V_drew)) (fun k_ hk => hk)))) : Kd.FK (Kd.slice 89 (Kd.int .u32)) _ _ l1 [.slice A1 l1.length c1]) (Reps.none _ _)))); intro v168 w22 ho23 hb hg_ hnew_; clear hg_ hnew_; (first | rw [← Ny167.out] at ho23 | (simp only [Int.reduceToNat] at ho23; rw [← Ny167.out] at ho23)); replace HO0 := Aside0.mk (Kd.V_elder' (qv HO0) (Kd.N_base ho23) hb); replace HO1 := Aside0.mk (Kd.V_elder' (qv HO1) (Kd.N_base ho23) hb); have HO169 := Aside0.mk (Kd.N_lower ho23 (below_size (qs HB))); replace HB := Aside0.mk (below_step (qs HB) hb); clear hb ho23; obtain ⟨Ao24, co24, eo24⟩ := Kd.N_slice HO169.out; subst eo24) | (go_at_call 107; (with_reducible refine (nat_rights.calls k _ _ y167 false _ ?side1 ?side2 A3.out).mono ?_); (case side1 => repeat (first | exact (Kd.N_reads' HO169.out).2.2 | (with_reducible refine Kd.C_alloc ?_ _) | (with_reducible refine Kd.C_drewN ?_ _) | (with_reducible refine Kd.C_drew ?_))); (case side2 => exact (Kd.N_reads' HO169.out).2.1); rintro e w25 ⟨rfl, hb⟩; replace HO0 := Aside0.mk (Kd.V_below (qv HO0) hb); replace HO1 := Aside0.mk (Kd.V_below (qv HO1) hb); replace HO169 := Aside0.mk (Kd.N_below (qn HO169) hb); replace HB := Aside0.mk (below_step (qs HB) hb); (try clear hb); (try clear hb2); (try clear hk); (try clear hi))))
  go_ret
  exact ⟨by first | rfl | (simp [errW_none, errW_some] <;> rfl) | (simp [*, errW_none, errW_some] <;> rfl), (qs HB)⟩
def nat_Sub.l0 : Nat → List Int → List Int → Int → List Int → Int → Int → Option (List Int × Int)
 | 0, _, _, _, _, _, _ => none
 | k + 1, x1, x6, x7, x25, x26, x27 => if x27 < x26 then (if 0 ≤ x27 then (if x27 < (x25.length : Int) then (if x27 < (x1.length : Int) then (if x27 < (x6.length : Int) then (nat_Sub.l0 k x1 (x6.set (x27 : Int).toNat ((wrap64 ((wrap64 ((wrap64 (rd x25 x27)) + x7)) - (wrap64 (rd x1 x27)))) % 4294967296)) ((wrap64 ((wrap64 ((wrap64 (rd x25 x27)) + x7)) - (wrap64 (rd x1 x27)))) / 4294967296) x25 x26 (wrap64 (x27 + 1))) else (none)) else (if x27 < (x6.length : Int) then (nat_Sub.l0 k x1 (x6.set (x27 : Int).toNat ((wrap64 ((wrap64 (rd x25 x27)) + x7)) % 4294967296)) ((wrap64 ((wrap64 (rd x25 x27)) + x7)) / 4294967296) x25 x26 (wrap64 (x27 + 1))) else (none))) else (none)) else (none)) else ((nat_trim.f k x6).bind fun t187 => (some (t187, 0)))
def nat_Sub.f (k : Nat) (l0 : List Int) (l1 : List Int) : Option (List Int × Int) := (nat_rights.f k (([l0, l1] : List (List Int)))).bind fun t178 => (if t178 = true then ((nat_Cmp.f k l0 l1).bind fun t179 => (if t179 < 0 then (none) else (if 0 ≤ (l0.length : Int) then (if ((l0.length : Int) : Int).toNat ≤ 70368744177664 then (nat_Sub.l0 k l1 (List.replicate ((l0.length : Int) : Int).toNat 0) 0 l0 (l0.length : Int) 0) else (none)) else (none)))) else (none))
theorem nat_Sub.mono_l : ∀ k, (∀ y0 y1 y2 y3 y4 y5, LeO (nat_Sub.l0 k y0 y1 y2 y3 y4 y5) (nat_Sub.l0 (k + 1) y0 y1 y2 y3 y4 y5))
 | 0 => fun _ _ _ _ _ _ r h => by simp [nat_Sub.l0] at h
 | k + 1 => by
  have ih0 := nat_Sub.mono_l k
  ·intro y0 y1 y2 y3 y4 y5
   unfold nat_Sub.l0
   repeat' first
   | (with_reducible exact ih0 _ _ _ _ _ _)
   | (with_reducible exact nat_Cmp.mono _ _ _)
   | (with_reducible exact nat_rights.mono _ _)
   | (with_reducible exact nat_trim.mono _ _)
   | (with_reducible exact LeO.refl _)
   | (with_reducible exact LeO.none _)
   | (with_reducible refine LeO.ite ?_ ?_)
   | (with_reducible refine LeO.bind ?_ (fun _ => ?_))
   | exact ih0 _ _ _ _ _ _
   | exact nat_Cmp.mono _ _ _
   | exact nat_rights.mono _ _
   | exact nat_trim.mono _ _
   | exact LeO.none _
   | refine LeO.ite ?_ ?_
   | refine LeO.bind ?_ (fun _ => ?_)
theorem nat_Sub.mono : ∀ a0 a1 k, LeO (nat_Sub.f k a0 a1) (nat_Sub.f (k + 1) a0 a1) := by
 intro a0 a1 k
 have ih0 := nat_Sub.mono_l k
 unfold nat_Sub.f
 repeat' first
   | (with_reducible exact ih0 _ _ _ _ _ _)
   | (with_reducible exact nat_Cmp.mono _ _ _)
   | (with_reducible exact nat_rights.mono _ _)
   | (with_reducible exact nat_trim.mono _ _)
   | (with_reducible exact LeO.refl _)
   | (with_reducible exact LeO.none _)
   | (with_reducible refine LeO.ite ?_ ?_)
   | (with_reducible refine LeO.bind ?_ (fun _ => ?_))
   | exact ih0 _ _ _ _ _ _
   | exact nat_Cmp.mono _ _ _
   | exact nat_rights.mono _ _
   | exact nat_trim.mono _ _
   | exact LeO.none _
   | refine LeO.ite ?_ ?_
   | refine LeO.bind ?_ (fun _ => ?_)
set_option maxHeartbeats 8000000 in
set_option maxRecDepth 100000 in
theorem nat_Sub.calls (k : Nat) (P0_ : Nat → Prop) (A0 : Option Addr) (c0 : Nat) (l0 : List Int) (P1_ : Nat → Prop) (A1 : Option Addr) (c1 : Nat) (l1 : List Int) (r1 : List Int) (r2 : Int) (w : World) (hs0 : Kd.V (Kd.int .u32) 89 w w.heap.size (fun k_ => P0_ k_) (.slice A0 l0.length c0) l0) (hs1 : Kd.V (Kd.int .u32) 89 w w.heap.size (fun k_ => P1_ k_) (.slice A1 l1.length c1) l1) (h : nat_Sub.f k l0 l1 = some (r1, r2)) :
  Calls Tryz.prog 88 #[.slice A0 l0.length c0, .slice A1 l1.length c1] w fun e w' => ∃ v0_ : Value, e = .returned (.tuple #[v0_, .int .i64 r2]) ∧ Kd.V (Kd.int .u32) 89 w' w.heap.size (fun k_ => ((P0_ k_ ∨ P1_ k_) ∨ w.heap.size ≤ k_)) v0_ r1 ∧ Below w.heap.size w w' := by
 have HO0 := Aside0.mk (show Kd.V (Kd.int .u32) 89 w w.heap.size (fun k_ => ((P0_ k_ ∨ P1_ k_) ∨ w.heap.size ≤ k_)) (.slice A0 l0.length c0) l0 from Kd.V_mono hs0 (fun k_ hk => .inl (.inl hk)))
 have HO1 := Aside0.mk (show Kd.V (Kd.int .u32) 89 w w.heap.size (fun k_ => ((P0_ k_ ∨ P1_ k_) ∨ w.heap.size ≤ k_)) (.slice A1 l1.length c1) l1 from Kd.V_mono hs1 (fun k_ hk => .inl (.inr hk)))
 have HB := Aside0.mk (Below.refl w.heap.size w)
 have H : ((nat_rights.f k (([l0, l1] : List (List Int)))).bind fun t178 => (if t178 = true then ((nat_Cmp.f k l0 l1).bind fun t179 => (if t179 < 0 then (none) else (if 0 ≤ (l0.length : Int) then (if ((l0.length : Int) : Int).toNat ≤ 70368744177664 then (nat_Sub.l0 k l1 (List.replicate ((l0.length : Int) : Int).toNat 0) 0 l0 (l0.length : Int) 0) else (none)) else (none)))) else (none))) = some (r1, r2) := h
 clear h
 obtain ⟨y175, hy175⟩ : ∃ y_ : List (List Int), y_ = (([l0, l1] : List (List Int))) := ⟨_, rfl⟩
 replace H : ((nat_rights.f k y175).bind fun t178 => (if t178 = true then ((nat_Cmp.f k l0 l1).bind fun t179 => (if t179 < 0 then (none) else (if 0 ≤ (l0.length : Int) then (if ((l0.length : Int) : Int).toNat ≤ 70368744177664 then (nat_Sub.l0 k l1 (List.replicate ((l0.length : Int) : Int).toNat 0) 0 l0 (l0.length : Int) 0) else (none)) else (none)))) else (none))) = some (r1, r2) := by first | (rw [hy175]; with_reducible exact H) | (have H2_ := (Option.bind_some _ _).symm.trans H; rw [hy175]; with_reducible exact H2_) | (have H2_ := (Option.bind_some _ _).symm.trans H; with_reducible exact H2_) | with_reducible exact H | (rw [hy175]; exact H) | exact H
 have Ny175 := Aside0.mk hy175
 clear hy175
 replace H := Option.bind_eq_some_iff.mp H
 obtain ⟨t178, A30, H⟩ := H
 try dsimp only at H
 have A3 := Aside0.mk A30
 clear A30
 by_cases c4 : t178 = true
 ·subst c4
  have H1 : ((nat_Cmp.f k l0 l1).bind fun t179 => (if t179 < 0 then (none) else (if 0 ≤ (l0.length : Int) then (if ((l0.length : Int) : Int).toNat ≤ 70368744177664 then (nat_Sub.l0 k l1 (List.replicate ((l0.length : Int) : Int).toNat 0) 0 l0 (l0.length : Int) 0) else (none)) else (none)))) = some (r1, r2) := by rw [if_pos rfl] at H; exact H
  clear H
  have H := H1
  clear H1
  replace H := Option.bind_eq_some_iff.mp H
  obtain ⟨t179, A50, H⟩ := H
  try dsimp only at H
  have A5 := Aside0.mk A50
  clear A50
  by_cases c6 : t179 < 0
  ·rw [if_pos c6] at H
   exact absurd H (by simp)
  ·rw [if_neg c6] at H
   have c6b0 : decide (t179 < 0) = false := decide_eq_false c6
   clear c6
   by_cases c7 : 0 ≤ (l0.length : Int)
   ·rw [if_pos c7] at H
    have c7b0 := eq_true c7
    have c7b1 : decide (0 ≤ (l0.length : Int)) = true := decide_eq_true c7
    clear c7
    by_cases c8 : ((l0.length : Int) : Int).toNat ≤ 70368744177664
    ·rw [if_pos c8] at H
     have c8b0 := eq_true c8
     have c8b1 : decide (((l0.length : Int) : Int).toNat ≤ 70368744177664) = true := decide_eq_true c8
     clear c8
     obtain ⟨y180, hy180⟩ : ∃ y_ : List Int, y_ = (List.replicate ((l0.length : Int) : Int).toNat 0) := ⟨_, rfl⟩
     replace H : (nat_Sub.l0 k l1 y180 0 l0 (l0.length : Int) 0) = some (r1, r2) := by first | (rw [hy180]; with_reducible exact H) | (have H2_ := (Option.bind_some _ _).symm.trans H; rw [hy180]; with_reducible exact H2_) | (have H2_ := (Option.bind_some _ _).symm.trans H; with_reducible exact H2_) | with_reducible exact H | (rw [hy180]; exact H) | exact H
     have Ny180 := Aside0.mk hy180
     clear hy180
     have H' := Aside0.mk H
     clear H
     go_enter Tryz.func88, Tryz.ntmps88
     go_wp2_with (first | ((with_reducible refine qd 14 ?_); refine Kd.N_lit (Kd.slice 89 (Kd.int .u32)) _ 44 ?hg (N' := 14) ?hd (xs := ([l0, l1] : List (List Int))) (inner := [.slice A0 l0.length c0, .slice A1 l1.length c1]) (ok := (fun k_ => ((P0_ k_ ∨ P1_ k_) ∨ w.heap.size ≤ k_))) (okp := (fun k_ => ((P0_ k_ ∨ P1_ k_) ∨ w.heap.size ≤ k_))) ?hr ?hp (fun _ hk => hk) ((show ∀ k_, w.heap.size ≤ k_ → (fun k_ => ((P0_ k_ ∨ P1_ k_) ∨ w.heap.size ≤ k_)) k_ from fun k_ hk => (.inr (Nat.le_trans (below_size (qs HB)) hk))) _ (Nat.le_refl _)) (Below.refl _ _) (Nat.le_refl _) (by simp) ?_; (case hd => rfl); (case hg => rfl); (case hr => first | (go_simp; done) | (go_simp; rfl)); (case hp => exact (Reps.one ((Kd.FK_slice_mk (Kd.V_reads' (Kd.V_mono (ok' := (fun k_ => ((P0_ k_ ∨ P1_ k_) ∨ w.heap.size ≤ k_))) (HO0.out) (fun k_ hk => hk))).2.1 (Kd.V_F (e := 89) (base := w.heap.size) (Kd.V_mono (ok := (fun k_ => ((P0_ k_ ∨ P1_ k_) ∨ w.heap.size ≤ k_))) (ok' := (fun k_ => ((P0_ k_ ∨ P1_ k_) ∨ w.heap.size ≤ k_))) (by repeat (first | exact HO0.out | apply Kd.V_drewN | apply Kd.V_alloc | apply Kd.V_drew)) (fun k_ hk => hk)))) : Kd.FK (Kd.slice 89 (Kd.int .u32)) _ _ l0 [.slice A0 l0.length c0]) (Reps.one ((Kd.FK_slice_mk (Kd.V_reads' (Kd.V_mono (ok' := (fun k_ => ((P0_ k_ ∨ P1_ k_) ∨ w.heap.size ≤ k_))) (HO1.out) (fun k_ hk => hk))).2.1 (Kd.V_F (e := 89) (base := w.heap.size) (Kd.V_mono (ok := (fun k_ => ((P0_ k_ ∨ P1_ k_) ∨ w.heap.size ≤ k_))) (ok' := (fun k_ => ((P0_ k_ ∨ P1_ k_) ∨ w.heap.size ≤ k_))) (by repeat (first | exact HO1.out | apply Kd.V_drewN | apply Kd.V_alloc | apply Kd.V_drew)) (fun k_ hk => hk)))) : Kd.FK (Kd.slice 89 (Kd.int .u32)) _ _ l1 [.slice A1 l1.length c1]) (Reps.none _ _)))); intro v176 w9 ho10 hb hg_ hnew_; clear hg_ hnew_; (first | rw [← Ny175.out] at ho10 | (simp only [Int.reduceToNat] at ho10; rw [← Ny175.out] at ho10)); replace HO0 := Aside0.mk (Kd.V_elder' (qv HO0) (Kd.N_base ho10) hb); replace HO1 := Aside0.mk (Kd.V_elder' (qv HO1) (Kd.N_base ho10) hb); have HO177 := Aside0.mk (Kd.N_lower ho10 (below_size (qs HB))); replace HB := Aside0.mk (below_step (qs HB) hb); clear hb ho10; obtain ⟨Ao11, co11, eo11⟩ := Kd.N_slice HO177.out; subst eo11) | ((with_reducible refine gate_callee (f := 107) rfl ?_); refine goesL_ (some 15) rfl rfl Tryz.func107 (by kernel_rfl) rfl #[.slice Ao11 y175.length co11] rfl ql ?_; (with_reducible refine (nat_rights.calls k _ _ y175 true _ ?side1 ?side2 A3.out).mono ?_); (case side1 => repeat (first | exact (Kd.N_reads' HO177.out).2.2 | (with_reducible refine Kd.C_alloc ?_ _) | (with_reducible refine Kd.C_drewN ?_ _) | (with_reducible refine Kd.C_drew ?_))); (case side2 => exact (Kd.N_reads' HO177.out).2.1); rintro e w12 ⟨rfl, hb⟩; refine ⟨_, rfl, ?_⟩; replace HO0 := Aside0.mk (Kd.V_below (qv HO0) hb); replace HO1 := Aside0.mk (Kd.V_below (qv HO1) hb); replace HO177 := Aside0.mk (Kd.N_below (qn HO177) hb); replace HB := Aside0.mk (below_step (qs HB) hb); (try clear hb); (try clear hb2); (try clear hk); (try clear hi)) | ((with_reducible refine gate_callee (f := 108) rfl ?_); refine goesL_ (some 20) rfl rfl Tryz.func108 (by kernel_rfl) rfl #[.slice A0 l0.length c0, .slice A1 l1.length c1] rfl ql ?_; (with_reducible refine (nat_Cmp.calls k (fun k_ => (((P0_ k_ ∨ P1_ k_) ∨ w.heap.size ≤ k_) ∧ some k_ ≠ (.slice Ao11 y175.length co11 : Value).ownBlock)) _ _ l0 (fun k_ => (((P0_ k_ ∨ P1_ k_) ∨ w.heap.size ≤ k_) ∧ some k_ ≠ (.slice Ao11 y175.length co11 : Value).ownBlock)) _ _ l1 t179 _ ?side1 ?side2 A5.out).mono ?_); (case side1 => exact HO0.out); (case side2 => exact HO1.out); rintro e w13 ⟨rfl, hb⟩; refine ⟨_, rfl, ?_⟩; replace HO0 := Aside0.mk (Kd.V_below (qv HO0) hb); replace HO1 := Aside0.mk (Kd.V_below (qv HO1) hb); replace HO177 := Aside0.mk (Kd.N_below (qn HO177) hb); replace HB := Aside0.mk (below_step (qs HB) hb); (try clear hb); (try clear hb2); (try clear hk); (try clear hi)) | ((with_reducible refine qd 24 ?_); refine Kd.R_make (Kd.int .u32) _ 89 rfl (N := 24) rfl 44 _ _ rfl (l0.length : Int) rfl rfl Tryz.underlying44 (.int .u32 0) 4 info89 rfl (by decide) (by omega) 0 (ok := fun _ => True) (okp := fun _ => True) rfl (fun _ hk => hk) trivial qo (Nat.le_trans (Nat.mul_le_mul_right _ (of_decide_eq_true qa : (l0.length : Int).toNat ≤ 70368744177664)) (by omega)) (Below.refl _ _) (Nat.le_refl _) ?_; intro v181 w14 ho15 hb hg_ hnew_; clear hg_ hnew_; (first | rw [← Ny180.out] at ho15 | (simp only [Int.reduceToNat] at ho15; rw [← Ny180.out] at ho15)); replace HO0 := Aside0.mk (Kd.V_elder' (qv HO0) (Kd.R_base ho15) hb); replace HO1 := Aside0.mk (Kd.V_elder' (qv HO1) (Kd.R_base ho15) hb); replace HO177 := Aside0.mk (Kd.N_elder' (qn HO177) (Kd.R_base ho15) hb); have HO182 := Aside0.mk (Kd.R_lower (Kd.R_newM (M := fun k_ => (w.heap.size ≤ k_)) ho15 (below_size (qs HB)) (fun k_ h_ => h_)) (below_size (qs HB))); replace HB := Aside0.mk (below_step (qs HB) hb); clear hb ho15))
     go_loopg [7, 27] k (fun kq v7 v27 w' => ∃ (x6_1 : List Int) (x7_1 : Int) (x27_1 : Int), v7 = .int .i64 x7_1 ∧ v27 = .int .i64 x27_1 ∧ Aside0 (nat_Sub.l0 kq l1 x6_1 x7_1 l0 (l0.length : Int) x27_1 = some (r1, r2)) ∧ Aside0 (kq ≤ k) ∧ Aside0 (Kd.V (Kd.int .u32) 89 w' w.heap.size (fun k_ => ((P0_ k_ ∨ P1_ k_) ∨ w.heap.size ≤ k_) ∧ some k_ ≠ (v181 : Value).ownBlock) (.slice A1 l1.length c1) l1) ∧ Aside0 (Kd.R (Kd.int .u32) 89 w' w.heap.size (fun k_ => (w.heap.size ≤ k_)) v181 x6_1) ∧ Aside0 (Kd.V (Kd.int .u32) 89 w' w.heap.size (fun k_ => ((P0_ k_ ∨ P1_ k_) ∨ w.heap.size ≤ k_) ∧ some k_ ≠ (v181 : Value).ownBlock) (.slice A0 l0.length c0) l0) ∧ Aside0 (Below w.heap.size w w'))
     case atStart => exact ⟨(y180), (0), (0), (by first | rfl | (simp; done) | (simp [*]; done)), (by first | rfl | (simp; done) | (simp [*]; done)), H', ⟨Nat.le_refl _⟩, ⟨by (with_reducible repeat (first | apply Kd.V_alloc | apply Kd.V_drewN | apply Kd.V_drew)); exact Kd.V_mono HO1.out (fun _ hk => ⟨hk.1.1, hk.2⟩)⟩, ⟨by (with_reducible repeat (first | apply Kd.R_alloc | apply Kd.R_drewN | apply Kd.R_drew)); exact Kd.R_mono HO182.out (fun _ hk => hk.1)⟩, ⟨by (with_reducible repeat (first | apply Kd.V_alloc | apply Kd.V_drewN | apply Kd.V_drew)); exact Kd.V_mono HO0.out (fun _ hk => ⟨hk.1.1, hk.2⟩)⟩, ⟨(qs HB)⟩⟩
     case round =>
      clear H'
      try clear c1
      try clear p2
      try clear c4
      try clear c6
      try clear c6b0
      try clear c7
      try clear c7b0
      try clear c7b1
      try clear c8
      try clear c8b0
      try clear c8b1
      try clear c10
      obtain ⟨x6_1, x7_1, x27_1, rfl, rfl, HA, HK1, HO_1, HO_6, HO_25, HB⟩ := hrel
      cases gk with
      | zero => exact absurd HA.out (by simp [nat_Sub.l0])
      | succ k1 =>
       have H := HA.out
       clear HA
       simp only [nat_Sub.l0] at H
       by_cases c16 : x27_1 < (l0.length : Int)
       ·rw [if_pos c16] at H
        have c16b0 : decide (x27_1 < (l0.length : Int)) = true := decide_eq_true c16
        clear c16
        by_cases c17 : 0 ≤ x27_1
        ·rw [if_pos c17] at H
         have c17b0 : decide (0 ≤ x27_1) = true := decide_eq_true c17
         clear c17
         by_cases c18 : x27_1 < (l0.length : Int)
         ·rw [if_pos c18] at H
          have c18b0 : decide (x27_1 < (l0.length : Int)) = true := decide_eq_true c18
          clear c18
          by_cases c19 : x27_1 < (l1.length : Int)
          ·rw [if_pos c19] at H
           have c19b0 : decide (x27_1 < (l1.length : Int)) = true := decide_eq_true c19
           clear c19
           by_cases c20 : x27_1 < (x6_1.length : Int)
           ·rw [if_pos c20] at H
            have c20b0 : decide (x27_1 < (x6_1.length : Int)) = true := decide_eq_true c20
            clear c20
            obtain ⟨y185, hy185⟩ : ∃ y_ : List Int, y_ = (x6_1.set (x27_1 : Int).toNat ((wrap64 ((wrap64 ((wrap64 (rd l0 x27_1)) + x7_1)) - (wrap64 (rd l1 x27_1)))) % 4294967296)) := ⟨_, rfl⟩
            replace H : (nat_Sub.l0 k1 l1 y185 ((wrap64 ((wrap64 ((wrap64 (rd l0 x27_1)) + x7_1)) - (wrap64 (rd l1 x27_1)))) / 4294967296) l0 (l0.length : Int) (wrap64 (x27_1 + 1))) = some (r1, r2) := by first | (rw [hy185]; with_reducible exact H) | (have H2_ := (Option.bind_some _ _).symm.trans H; rw [hy185]; with_reducible exact H2_) | (have H2_ := (Option.bind_some _ _).symm.trans H; with_reducible exact H2_) | with_reducible exact H | (rw [hy185]; exact H) | exact H
            have Ny185 := Aside0.mk hy185
            clear hy185
            have H' := Aside0.mk H
            clear H
            have p183 : 0 ≤ (x27_1 : Int) := of_decide_eq_true qa
            have q183 : x27_1 < (l0.length : Int) := of_decide_eq_true qa
            obtain ⟨ad183, e183, hx183_0⟩ := Kd.at_int (Kd.V_reads' HO_25.out).2.2 x27_1 p183 q183
            cases e183
            replace p183 := eq_true p183
            replace q183 := eq_true q183
            have p184 : 0 ≤ (x27_1 : Int) := of_decide_eq_true qa
            have q184 : x27_1 < (l1.length : Int) := of_decide_eq_true qa
            obtain ⟨ad184, e184, hx184_0⟩ := Kd.at_int (Kd.V_reads' HO_1.out).2.2 x27_1 p184 q184
            cases e184
            replace p184 := eq_true p184
            replace q184 := eq_true q184
            have p21 : 0 ≤ (x27_1 : Int) := of_decide_eq_true qa
            have q21 : (x27_1 : Int) < ((x6_1.length : Int) : Int) := of_decide_eq_true qa
            obtain ⟨go21, co21, eo21, gb21, gl21, cl21, HG21⟩ := Kd.R_form HO_6.out (by omega)
            (first | cases eo21 | (injection eo21 with ea_ en_ ec_; (first | subst ea_ | (injection ea_ with ea_; subst ea_)); subst ec_; clear en_))
            have GB21 := Aside0.mk gb21
            have GG21 := Aside0.mk HG21
            clear gb21 gl21 HG21
            obtain ⟨hx21_0, hf21_0⟩ := Kd.R_celln 0 HO_6.out (x27_1 : Int) p21 q21
            replace p21 := eq_true p21
            replace q21 := eq_true q21
            have HP22 := Kd.R_putg HO_6.out (x27_1 : Int) ((wrap64 ((wrap64 ((wrap64 (rd l0 x27_1)) + x7_1)) - (wrap64 (rd l1 x27_1)))) % 4294967296)
            go_wp2_with (first | ((with_reducible refine gate_store (t := 89) (p := 51) rfl ?_); refine store_event (t := 89) (p := 51) (v := ?vo_w23) (w1 := (wr.setCell ⟨go21, (x27_1 : Int).toNat, none⟩ (.int .u32 ((wrap64 ((wrap64 ((wrap64 (rd l0 x27_1)) + x7_1)) - (wrap64 (rd l1 x27_1)))) % 4294967296)))) ?hg ?ho ?hn ?hr ?_; (case ho => rfl); (case hg => rfl); (case hn => rfl); (case hr => first | (go_simp; done) | (go_simp; rfl)); intro w23 hw; have hg : wr.grownBy w23 (some go21) := (by rw [hw]; exact HP22.2); have hp_ : Kd.R (Kd.int .u32) 89 w23 w.heap.size (fun k_ => (w.heap.size ≤ k_)) (.slice (some ⟨go21, 0, none⟩) x6_1.length co21) y185 := (by rw [hw, Ny185.out]; exact HP22.1); clear HP22; replace HO_1 := Aside0.mk (Kd.V_afterv (v := (.slice (some ⟨go21, 0, none⟩) x6_1.length co21)) (v1 := (.slice (some ⟨go21, 0, none⟩) x6_1.length co21)) (ok := (fun k_ => ((P0_ k_ ∨ P1_ k_) ∨ w.heap.size ≤ k_))) (qv HO_1) hg (.inl rfl)); replace HO_6 := Aside0.mk (hp_); replace HO_25 := Aside0.mk (Kd.V_afterv (v := (.slice (some ⟨go21, 0, none⟩) x6_1.length co21)) (v1 := (.slice (some ⟨go21, 0, none⟩) x6_1.length co21)) (ok := (fun k_ => ((P0_ k_ ∨ P1_ k_) ∨ w.heap.size ≤ k_))) (qv HO_25) hg (.inl rfl)); replace HB := Aside0.mk ((by rw [hw]; exact below_set (HB.out) GB21.out : Below w.heap.size w w23)); clear hg hw hp_))
            go_roundg k1
            case measure => have := HK1.out; omega
            case rel => exact ⟨(y185), ((wrap64 ((wrap64 ((wrap64 (rd l0 x27_1)) + x7_1)) - (wrap64 (rd l1 x27_1)))) / 4294967296), (wrap64 (x27_1 + 1)), (by first | rfl | (simp; done) | (simp [*]; done)), (by first | rfl | (simp; done) | (simp [*]; done)), H', ⟨by have := HK1.out; omega⟩, ⟨(qv HO_1)⟩, ⟨(qr HO_6)⟩, ⟨(qv HO_25)⟩, ⟨(qs HB)⟩⟩
           ·rw [if_neg c20] at H
            exact absurd H (by simp)
          ·rw [if_neg c19] at H
           have c19b0 : decide (x27_1 < (l1.length : Int)) = false := decide_eq_false c19
           clear c19
           by_cases c24 : x27_1 < (x6_1.length : Int)
           ·rw [if_pos c24] at H
            have c24b0 : decide (x27_1 < (x6_1.length : Int)) = true := decide_eq_true c24
            clear c24
            obtain ⟨y186, hy186⟩ : ∃ y_ : List Int, y_ = (x6_1.set (x27_1 : Int).toNat ((wrap64 ((wrap64 (rd l0 x27_1)) + x7_1)) % 4294967296)) := ⟨_, rfl⟩
            replace H : (nat_Sub.l0 k1 l1 y186 ((wrap64 ((wrap64 (rd l0 x27_1)) + x7_1)) / 4294967296) l0 (l0.length : Int) (wrap64 (x27_1 + 1))) = some (r1, r2) := by first | (rw [hy186]; with_reducible exact H) | (have H2_ := (Option.bind_some _ _).symm.trans H; rw [hy186]; with_reducible exact H2_) | (have H2_ := (Option.bind_some _ _).symm.trans H; with_reducible exact H2_) | with_reducible exact H | (rw [hy186]; exact H) | exact H
            have Ny186 := Aside0.mk hy186
            clear hy186
            have H' := Aside0.mk H
            clear H
            have p183 : 0 ≤ (x27_1 : Int) := of_decide_eq_true qa
            have q183 : x27_1 < (l0.length : Int) := of_decide_eq_true qa
            obtain ⟨ad183, e183, hx183_0⟩ := Kd.at_int (Kd.V_reads' HO_25.out).2.2 x27_1 p183 q183
            cases e183
            replace p183 := eq_true p183
            replace q183 := eq_true q183
            have p25 : 0 ≤ (x27_1 : Int) := of_decide_eq_true qa
            have q25 : (x27_1 : Int) < ((x6_1.length : Int) : Int) := of_decide_eq_true qa
            obtain ⟨go25, co25, eo25, gb25, gl25, cl25, HG25⟩ := Kd.R_form HO_6.out (by omega)
            (first | cases eo25 | (injection eo25 with ea_ en_ ec_; (first | subst ea_ | (injection ea_ with ea_; subst ea_)); subst ec_; clear en_))
            have GB25 := Aside0.mk gb25
            have GG25 := Aside0.mk HG25
            clear gb25 gl25 HG25
            obtain ⟨hx25_0, hf25_0⟩ := Kd.R_celln 0 HO_6.out (x27_1 : Int) p25 q25
            replace p25 := eq_true p25
            replace q25 := eq_true q25
            have HP26 := Kd.R_putg HO_6.out (x27_1 : Int) ((wrap64 ((wrap64 (rd l0 x27_1)) + x7_1)) % 4294967296)
            go_wp2_with (first | ((with_reducible refine gate_store (t := 89) (p := 51) rfl ?_); refine store_event (t := 89) (p := 51) (v := ?vo_w27) (w1 := (wr.setCell ⟨go25, (x27_1 : Int).toNat, none⟩ (.int .u32 ((wrap64 ((wrap64 (rd l0 x27_1)) + x7_1)) % 4294967296)))) ?hg ?ho ?hn ?hr ?_; (case ho => rfl); (case hg => rfl); (case hn => rfl); (case hr => first | (go_simp; done) | (go_simp; rfl)); intro w27 hw; have hg : wr.grownBy w27 (some go25) := (by rw [hw]; exact HP26.2); have hp_ : Kd.R (Kd.int .u32) 89 w27 w.heap.size (fun k_ => (w.heap.size ≤ k_)) (.slice (some ⟨go25, 0, none⟩) x6_1.length co25) y186 := (by rw [hw, Ny186.out]; exact HP26.1); clear HP26; replace HO_1 := Aside0.mk (Kd.V_afterv (v := (.slice (some ⟨go25, 0, none⟩) x6_1.length co25)) (v1 := (.slice (some ⟨go25, 0, none⟩) x6_1.length co25)) (ok := (fun k_ => ((P0_ k_ ∨ P1_ k_) ∨ w.heap.size ≤ k_))) (qv HO_1) hg (.inl rfl)); replace HO_6 := Aside0.mk (hp_); replace HO_25 := Aside0.mk (Kd.V_afterv (v := (.slice (some ⟨go25, 0, none⟩) x6_1.length co25)) (v1 := (.slice (some ⟨go25, 0, none⟩) x6_1.length co25)) (ok := (fun k_ => ((P0_ k_ ∨ P1_ k_) ∨ w.heap.size ≤ k_))) (qv HO_25) hg (.inl rfl)); replace HB := Aside0.mk ((by rw [hw]; exact below_set (HB.out) GB25.out : Below w.heap.size w w27)); clear hg hw hp_))
            go_roundg k1
            case measure => have := HK1.out; omega
            case rel => exact ⟨(y186), ((wrap64 ((wrap64 (rd l0 x27_1)) + x7_1)) / 4294967296), (wrap64 (x27_1 + 1)), (by first | rfl | (simp; done) | (simp [*]; done)), (by first | rfl | (simp; done) | (simp [*]; done)), H', ⟨by have := HK1.out; omega⟩, ⟨(qv HO_1)⟩, ⟨(qr HO_6)⟩, ⟨(qv HO_25)⟩, ⟨(qs HB)⟩⟩
           ·rw [if_neg c24] at H
            exact absurd H (by simp)
         ·rw [if_neg c18] at H
          exact absurd H (by simp)
        ·rw [if_neg c17] at H
         exact absurd H (by simp)
       ·rw [if_neg c16] at H
        have c16b0 : decide (x27_1 < (l0.length : Int)) = false := decide_eq_false c16
        clear c16
        replace H := Option.bind_eq_some_iff.mp H
        obtain ⟨t187, A280, H⟩ := H
        try dsimp only at H
        have A28 := Aside0.mk A280
        clear A280
        simp only [Option.some.injEq, Prod.mk.injEq] at H
        obtain ⟨rfl, rfl⟩ := H
        obtain ⟨Ao29, co29, eo29⟩ := Kd.R_slice HO_6.out
        subst eo29
        go_wp2_with (first | ((with_reducible refine gate_callee (f := 109) rfl ?_); refine goesL_ (some 56) rfl rfl Tryz.func109 (by kernel_rfl) rfl #[.slice Ao29 x6_1.length co29] rfl ql ?_; (with_reducible refine (nat_trim.calls k1 (fun k_ => some k_ = (.slice Ao29 x6_1.length co29 : Value).ownBlock) _ _ x6_1 t187 _ ?side1 A28.out).mono ?_); (case side1 => exact Kd.R_V (Kd.R_tight rfl (HO_6.out))); rintro e w30 ⟨v188, rfl, ho0, hb⟩; refine ⟨_, rfl, ?_⟩; replace HO_1 := Aside0.mk (Kd.V_below (qv HO_1) hb); replace HO_25 := Aside0.mk (Kd.V_below (qv HO_25) hb); have HO189 := Aside0.mk (Kd.V_lower (Kd.V_mono (ok' := fun k_ => ((P0_ k_ ∨ P1_ k_) ∨ w.heap.size ≤ k_)) ho0 (fun k_ hk_ => Or.elim hk_ (fun hs_ => (.inr (((HO_6.out).1 k_ hs_.symm)))) (fun hn_ => (.inr (Nat.le_trans (below_size (qs HB)) hn_))))) (below_size (qs HB))); replace HO_6 := Aside0.mk (Kd.R_below (qr HO_6) hb); replace HB := Aside0.mk (below_step (qs HB) hb); (try clear hb); (try clear hb2); (try clear hk); (try clear hi); (try clear ho0)))
        go_ret2
        exact ⟨_, by first | rfl | (simp [errW_none, errW_some] <;> rfl) | (simp [*, errW_none, errW_some] <;> rfl), (qv HO189), (qs HB)⟩
    ·rw [if_neg c8] at H
     exact absurd H (by simp)
   ·rw [if_neg c7] at H
    exact absurd H (by simp)
 ·replace c4 := Bool.eq_false_iff.mpr c4
  subst c4
  have H1 : (none) = some (r1, r2) := by rw [if_neg (show ¬ (false = true) by decide)] at H; exact H
  clear H
  have H := H1
  clear H1
  exact absurd H (by simp)
def bits_Mul.f (a0 : Int) (a1 : Int) : Option (Int × Int) := (bits_Mul64.f a0 a1).bind fun bt190 => (some (bt190.1, bt190.2))
set_option maxHeartbeats 8000000 in
set_option maxRecDepth 100000 in
theorem bits_Mul.calls (a0 : Int) (a1 : Int) (r1 : Int) (r2 : Int) (w : World) (h : bits_Mul.f a0 a1 = some (r1, r2)) :
    Calls Tryz.prog 122 #[.int .u64 a0, .int .u64 a1] w fun e w' => e = .returned (.tuple #[.int .u64 r1, .int .u64 r2]) ∧ Drawn0 w w' := by
  have H : ((bits_Mul64.f a0 a1).bind fun bt190 => (some (bt190.1, bt190.2))) = some (r1, r2) := h
  clear h
  replace H := Option.bind_eq_some_iff.mp H
  obtain ⟨⟨t190, t191⟩, A30, H⟩ := H
  try dsimp only at H
  have A3 := Aside0.mk A30
  clear A30
  simp only [Option.some.injEq, Prod.mk.injEq] at H
  obtain ⟨rfl, rfl⟩ := H
  go_enter Tryz.func122, Tryz.ntmps122
  go_wp2_with (first | ((with_reducible refine gate_callee (f := 102) rfl ?_); refine goesL_ (some 25) rfl rfl Tryz.func102 (by kernel_rfl) rfl #[.int .u64 a0, .int .u64 a1] rfl ql ?_; (with_reducible refine (bits_Mul64.calls a0 a1 t190 t191 _ A3.out).mono ?_); rintro e w' ⟨rfl, ⟨nd, rfl⟩⟩; refine ⟨_, rfl, ?_⟩))
  go_ret2
  exact ⟨by first | rfl | (simp; done) | (simp [*]; done), by repeat (first | exact Drawn0.refl _ | apply Drawn0.step)⟩
end Go.Proofs.YtekmngghebpciaaGreat.PW
end
section
namespace Go.Proofs.YtekmngghebpciaaGreat.PW
open Go.RowKit Go.Proofs.YtekmngghebpciaaGreatW.PrintWords Go.Proofs.YtekmngghebpciaaGreatW.PrintLast Go.Proofs.YtekmngghebpciaaGreatW.PrintMore
attribute [local go_sem] max2_int min2_int max_two min_two max_three min_three max_four min_four
set_option linter.unusedVariables false
set_option linter.unusedSimpArgs false
theorem mulOne_ : ∀ k : Nat, k < 65 → bits_Mul.f 1 (k : Int) = some (0, (k : Int)) := by decide +kernel
theorem setCells_fill_ {g T : Nat} {v : Value} : ∀ (c o : Nat) (W : World) (cur : Array Value), W.heap[g]? = some (.cells cur T (0, 0)) → o + c ≤ cur.size → (∀ j, j < o → cur[j]? = some v) →
    (∃ cur', (W.setCells g o (List.replicate c v)).heap[g]? = some (.cells cur' T (0, 0)) ∧ cur'.size = cur.size ∧ ∀ j, j < o + c → cur'[j]? = some v) ∧ W.grownBy (W.setCells g o (List.replicate c v)) (some g)
  | 0, o, W, cur, hb, _, hj => ⟨⟨cur, hb, rfl, hj⟩, rfl, rfl, rfl, Nat.le_refl _, fun _ _ _ => rfl⟩
  | c + 1, o, W, cur, hb, ho, hj => by
    have h1 : (W.setCell ⟨g, o, none⟩ v).heap[g]? = some (.cells (cur.setIfInBounds o v) T (0, 0)) := blk_set hb o v
    have h2 : W.grownBy (W.setCell ⟨g, o, none⟩ v) (some g) := ⟨rfl, rfl, rfl, by simp [World.setCell], fun q _ hq => Below.heap_setCell _ _ _ _ (by rintro rfl; exact hq rfl)⟩
    obtain ⟨⟨cur', h3, h4, h5⟩, h6⟩ := setCells_fill_ c (o + 1) _ _ h1 (by simp; omega) (fun j hjo => by
      by_cases e : j = o
      · subst e; rw [Array.getElem?_setIfInBounds_self_of_lt (by omega)]
      · rw [Array.getElem?_setIfInBounds_ne (by omega)]; exact hj j (by omega))
    refine ⟨⟨cur', h3, by rw [h4]; simp, fun j hjc => h5 j (by omega)⟩, h6.os.trans h2.os, h6.tape.trans h2.tape, h6.output.trans h2.output, Nat.le_trans h2.size h6.size, fun q hq hne => ?_⟩
    exact (h6.block q (Nat.lt_of_lt_of_le hq h2.size) hne).trans (h2.block q hq hne)
section
variable {P : Program} {ops : Array Oper} {rest : List Oper} {o : Oper} {a : Act} {Q : Exit → Act → World → Prop} {Kc : Act → World → Prop} {W : World}
theorem copyV_run_ {ρ : Operand → Value} {x y : Operand} {dT sT E : TypeId} (hu : P.underlying dT = some (.slice E)) (hE : (P.info? E).map (·.size) = some 1) {v : Value} (hv : v.oneCell' = true)
    {gd gs od os dl dc sl sc T : Nat} {cur : Array Value} (hx : ρ x = .slice (some ⟨gd, od, none⟩) dl dc) (hy : ρ y = .slice (some ⟨gs, os, none⟩) sl sc)
    (hbd : W.heap[gd]? = some (.cells cur T (0, 0))) (c : Nat) (hc : c = Nat.min sl dl) (h1 : od + c ≤ cur.size) (hs : ∀ j, j < c → W.cell? ⟨gs, os + j, none⟩ = some v) :
    (Builtin.copy_ #[dT, sT] o.type #[ρ x, ρ y]).run P W = .ok (goInt c) (W.setCells gd od (List.replicate c v)) := by
  have hr := run_copy_cells (P := P) W dT sT o.type E gd od dl dc ⟨gs, os, none⟩ sl sc (List.replicate c v) hu hE (by rw [List.length_replicate]; exact hc) ?_ ?_ ?_ ?_
  · rw [hx, hy, hr, List.length_replicate]
  · intro j u hj
    obtain ⟨hjl, e⟩ := List.getElem?_eq_some_iff.1 hj
    rw [List.length_replicate] at hjl
    rw [List.getElem_replicate] at e
    subst e
    have hadd : (⟨gs, os, none⟩ : Addr).add j = ⟨gs, os + j, none⟩ := by unfold Addr.add; split <;> simp_all
    rw [hadd]; exact hs j hjl
  · intro j hj
    rw [List.length_replicate] at hj
    rw [blk_cell hbd, Array.getElem?_eq_getElem (show od + j < cur.size by omega)]
    rfl
  · intro j _
    exact blk_frozen hbd _
  · intro u hu2
    rw [List.eq_of_mem_replicate hu2]; exact hv
theorem copyV_event_ {v : Value} {x y : Operand} {dT sT E : TypeId} (hgd : o.guard = none) (ho : o.op = .call { callee := .builtin .copy, args := #[x, y], argTypes := #[dT, sT] }) (hu : P.underlying dT = some (.slice E)) (hE : (P.info? E).map (·.size) = some 1) (hv : v.oneCell' = true)
    {gd gs od os dl dc sl sc T : Nat} {cur : Array Value} (hx : a.eval x = .slice (some ⟨gd, od, none⟩) dl dc) (hy : a.eval y = .slice (some ⟨gs, os, none⟩) sl sc)
    (hbd : W.heap[gd]? = some (.cells cur T (0, 0))) (c : Nat) (hc : c = Nat.min sl dl) (h1 : od + c ≤ cur.size) (hs : ∀ j, j < c → W.cell? ⟨gs, os + j, none⟩ = some v) (hp : ∀ j, j < od → cur[j]? = some v)
    (h : ∀ w' cur', w'.heap[gd]? = some (.cells cur' T (0, 0)) → cur'.size = cur.size → (∀ j, j < od + c → cur'[j]? = some v) → W.grownBy w' (some gd) → wpList P ops Q rest (a.put o.dst (.int .i64 c)) w') : wpList P ops Q (o :: rest) a W := by
  refine wpList_plain hgd fun K hK => ?_
  have hrun := copyV_run_ (P := P) (o := o) (ρ := a.eval) hu hE hv hx hy hbd c hc h1 hs (dT := dT) (sT := sT)
  obtain ⟨⟨cur', h3, h4, h5⟩, h6⟩ := setCells_fill_ c od W cur hbd h1 hp
  unfold Oper.wp
  simp [execOp, ho, resolve, invoke, builtin, hrun, Result.andThen]
  exact hK _ _ (h _ cur' h3 h4 h5 h6)
theorem copyV_step_ {v : Value} {x y : Operand} {dT sT E : TypeId} (hw : Region.wanted o (yielded ops a.tmps) = true) (ho : o.op = .call { callee := .builtin .copy, args := #[x, y], argTypes := #[dT, sT] }) (hu : P.underlying dT = some (.slice E)) (hE : (P.info? E).map (·.size) = some 1) (hv : v.oneCell' = true)
    {gd gs od os dl dc sl sc T : Nat} {cur : Array Value} (hx : a.eval x = .slice (some ⟨gd, od, none⟩) dl dc) (hy : a.eval y = .slice (some ⟨gs, os, none⟩) sl sc)
    (hbd : W.heap[gd]? = some (.cells cur T (0, 0))) (c : Nat) (hc : c = Nat.min sl dl) (h1 : od + c ≤ cur.size) (hs : ∀ j, j < c → W.cell? ⟨gs, os + j, none⟩ = some v) (hp : ∀ j, j < od → cur[j]? = some v)
    (h : ∀ w' cur', w'.heap[gd]? = some (.cells cur' T (0, 0)) → cur'.size = cur.size → (∀ j, j < od + c → cur'[j]? = some v) → W.grownBy w' (some gd) → Kc (a.put o.dst (.int .i64 c)) w') :
    if Region.wanted o (yielded ops a.tmps) = true then Oper.wp P o a W Kc Q else Kc (a.put o.dst undef) W := by
  rw [if_pos hw]
  have hrun := copyV_run_ (P := P) (o := o) (ρ := a.eval) hu hE hv hx hy hbd c hc h1 hs (dT := dT) (sT := sT)
  obtain ⟨⟨cur', h3, h4, h5⟩, h6⟩ := setCells_fill_ c od W cur hbd h1 hp
  unfold Oper.wp
  simp [execOp, ho, resolve, invoke, builtin, hrun, Result.andThen]
  exact h _ cur' h3 h4 h5 h6
end
theorem one_cell_ {W : World} {g0 T k : Nat} {v : Value} (hg : W.heap[g0]? = some (.cells #[v] T (0, 0))) : ∀ j, j < Nat.min 1 k → W.cell? ⟨g0, 0 + j, none⟩ = some v := fun j hj => by
  have : j < 1 := Nat.lt_of_lt_of_le hj (Nat.min_le_left 1 k)
  obtain rfl : j = 0 := by omega
  rw [blk_cell hg]
  rfl
theorem grown_here_ {w W W1 : World} (h : Below w.heap.size w W) (hg : W.grownBy W1 (some w.heap.size)) : Below w.heap.size w W1 := Below.grown h hg (below_size h) (fun _ e_ => by cases e_; exact Nat.le_refl _)
set_option maxHeartbeats 8000000 in
set_option maxRecDepth 100000 in
theorem Repeat_calls_ (v : Value) (hv : v.oneCell' = true) (g0 : Nat) (k : Nat) (hk : k < 65) (w : World) (hg0 : w.heap[g0]? = some (.cells #[v] 44 (0, 0))) :
    Calls Tryz.prog 111 #[.slice (some ⟨g0, 0, none⟩) 1 1, .int .i64 k] w fun e w' => ∃ gr, e = .returned (.slice (some ⟨gr, 0, none⟩) k k) ∧ (∀ j, j < k → w'.cell? ⟨gr, j, none⟩ = some v) ∧ Below w.heap.size w w' := by
  have HB := Aside0.mk (Below.refl w.heap.size w)
  have hg := Aside0.mk hg0
  clear hg0
  have hmk : ∀ w_ : World, (Instr.makeSlice 126 (.int .i64 (k : Int)) (.int .i64 (k : Int))).run Tryz.prog w_ = .ok (.slice (some ⟨w_.heap.size, 0, none⟩) k k) (w_.alloc (.cells (Array.replicate k (.slice none 0 0)) 44)) := fun w_ => by
    obtain ⟨i, hi, hz⟩ : ∃ i, Tryz.prog.info? 44 = some i ∧ (i.zero, i.size, i.bytes) = (some (.slice none 0 0), 1, 24) := by
      have h : (Tryz.prog.info? 44).map (fun i => (i.zero, i.size, i.bytes)) = some (some (.slice none 0 0), 1, 24) := by kernel_rfl
      exact Option.map_eq_some_iff.1 h
    simp only [Prod.mk.injEq] at hz
    have h := run_makeSlice (P := Tryz.prog) w_ 126 44 i (.slice none 0 0) Tryz.underlying126 hi hz.1 .i64 .i64 k k (by omega) (Int.le_refl _) (by rw [hz.2.1]; omega) (by rw [hz.2.2]; omega) (by omega)
    rw [h, hz.2.1]
    have hm : madeCells (Value.slice none 0 0).cells ((k : Int).toNat * 1) = Array.replicate k (.slice none 0 0) := by
      apply Array.ext
      · simp [size_madeCells]
      · intro i h1 h2
        simp [madeCells, Value.cells, Nat.mod_one]
    rw [hm]
    simp
  have hneg : decide ((k : Int) < 0) = false := decide_eq_false (by omega)
  have hu1 : IntKind.u64.wrap (k : Int) = (k : Int) := by simp [IntKind.wrap, IntKind.bits, IntKind.signed]; omega
  have hu2 : wrap64 (k : Int) = (k : Int) := by unfold wrap64; omega
  have hbig : decide ((k : Int) > 9223372036854775807) = false := decide_eq_false (by omega)
  go_enter Tryz.func111, Tryz.ntmps111
  go_wp2_with (first | ((with_reducible refine gate_callee (f := 122) rfl ?_); refine goesL_ (some 18) rfl rfl Tryz.func122 (by kernel_rfl) rfl #[.int .u64 1, .int .u64 k] rfl (by (try simp only [List.map_toArray, List.map_cons, List.map_nil]); first | done | rfl | go_simp) ?_; (with_reducible refine (bits_Mul.calls 1 k 0 k _ (mulOne_ k hk)).mono ?_); rintro e w' ⟨rfl, ⟨nd, rfl⟩⟩; refine ⟨_, rfl, ?_⟩) | ((with_reducible refine qd 33 ?_); refine copyV_event_ (gd := w.heap.size) (od := 0) (gs := g0) (os := 0) (cur := Array.replicate k (.slice none 0 0)) (T := 44) rfl rfl Tryz.underlying126 (by kernel_rfl) hv rfl rfl (heap_alloc_new (w.drewN nd) _) (Nat.min 1 k) rfl (by simp; exact Nat.min_le_right 1 k) (one_cell_ (qb hg)) (fun j hj => by omega) ?_; intro w2 cur2 hb2_ hsz2_ hp2_ hgr2_; have hb2 := Aside0.mk hb2_; have hsz2 := Aside0.mk hsz2_; have hp2 := Aside0.mk hp2_; have HB2 := Aside0.mk (grown_here_ (by repeat (first | exact HB.out | apply below_alloc | apply pw_below_drewN | apply below_drew1)) hgr2_); clear hb2_ hsz2_ hp2_ hgr2_ HB))
  go_loopg [8] k (fun kq v8 w' => ∃ n : Nat, v8 = .int .i64 n ∧ Aside0 (n ≤ k ∧ (0 < k → 0 < n)) ∧ Aside0 (k - n ≤ kq) ∧ Aside0 (∃ cur : Array Value, w'.heap[w.heap.size]? = some (.cells cur 44 (0, 0)) ∧ cur.size = k ∧ ∀ j, j < n → cur[j]? = some v) ∧ Aside0 (Below w.heap.size w w'))
  case atStart => exact ⟨Nat.min 1 k, rfl, ⟨Nat.min_le_right 1 k, fun h => by unfold Nat.min; omega⟩, ⟨Nat.sub_le _ _⟩, ⟨cur2, hb2.out, by rw [hsz2.out]; simp, fun j hj => hp2.out j (by rw [Nat.zero_add]; exact hj)⟩, HB2⟩
  case round =>
    clear hb2 hsz2 hp2 HB2
    obtain ⟨n, rfl, hn, hq, hcur, HB⟩ := hrel
    by_cases hlt : n < k
    · have l1 : decide ((n : Int) < (k : Int)) = true := decide_eq_true (by omega)
      have l2 : decide (n < k) = true := decide_eq_true hlt
      obtain ⟨m, hm⟩ : ∃ m, gk = m + 1 := ⟨gk - 1, by have := hq.out; omega⟩
      subst hm
      go_wp2
      obtain ⟨cur, hb_, hsz_, hp_⟩ := hcur.out
      have hb := Aside0.mk hb_
      have hsz := Aside0.mk hsz_
      have hp := Aside0.mk hp_
      clear hb_ hsz_ hp_ hcur
      have t1 : (n ≤ k) = True := eq_true (by omega)
      have t2 : (k = n) = False := eq_false (by omega)
      refine start_ (n := 10) (S := fun w' => True) (ds := []) #[false, false, false, false, false, false, false, false, false, false] (by kernel_rfl) rfl rfl trivial (fun hHeld => ?_)
      refine qP 0 (some 38) (qt 10 1) ?_
      refine qP 1 (some 39) (qt 10 3) ?_
      refine qP 2 (some 40) (qt 10 7) ?_
      refine qP 3 (some 41) (qt 10 15) ?_
      refine qP 4 (some 42) (qt 10 31) ?_
      refine qP 5 (some 43) (qt 10 63) ?_
      refine qP 6 (some 44) (qt 10 127) ?_
      refine one_ (i := 7) (N := some 45) (qt 10 255) rfl rfl (by kernel_rfl) (by decide) (fun K hK => ?_)
      refine copyV_step_ (gd := w.heap.size) (od := n) (gs := w.heap.size) (os := 0) (cur := cur) (T := 44) (by rfl) rfl Tryz.underlying126 (by kernel_rfl) hv (by rfl) (by rfl) (blk_drew hb.out) (Nat.min n (k - n)) rfl (by rw [hsz.out]; have h_ : Nat.min n (k - n) ≤ k - n := Nat.min_le_right n (k - n); omega) (fun j hj => ?_) hp.out ?_
      · have : j < n := Nat.lt_of_lt_of_le hj (Nat.min_le_left n (k - n))
        rw [Nat.zero_add, blk_cell (blk_drew hb.out)]
        exact hp.out j this
      intro w2 cur2 hb2 hsz2 hp2 hgr2
      refine hK.out _ _ trivial (fun hHeld => ?_)
      clear hK K
      refine norm_ (a' := ?_) ?_ ?_
      rotate_left
      · show Act.put _ (some 45) _ = _
        simp only [Act.put, zA_, zB_, zC_, i64_w, i32_w]
        rfl
      refine qP 8 (some 46) (qt 10 511) ?_
      refine qP 9 (some 8) (qt 10 1023) ?_
      refine done_ (by kernel_rfl) ?_
      have HB2 := grown_here_ (below_drew1 HB.out) hgr2
      have hle : Nat.min n (k - n) ≤ k - n := Nat.min_le_right n (k - n)
      have hge : 0 < Nat.min n (k - n) := Nat.lt_min.2 ⟨hn.out.2 (by omega), by omega⟩
      have hsum : wrap64 ((n : Int) + ((Nat.min n (k - n) : Nat) : Int)) = ((n + Nat.min n (k - n) : Nat) : Int) := by unfold wrap64; omega
      have hb2' := Aside0.mk hb2
      have hsz2' := Aside0.mk hsz2
      have hp2' := Aside0.mk hp2
      have HB2' := Aside0.mk HB2
      have hle' := Aside0.mk hle
      have hge' := Aside0.mk hge
      clear hb2 hsz2 hp2 hgr2 HB2 HB hle hge
      go_wp2
      go_roundg m
      case measure => omega
      case rel => exact ⟨n + Nat.min n (k - n), congrArg (Value.int .i64) hsum, ⟨by have := hle'.out; omega, by have := hge'.out; omega⟩, ⟨by have := hge'.out; have := hq.out; omega⟩, ⟨cur2, hb2'.out, hsz2'.out.trans hsz.out, hp2'.out⟩, HB2'⟩
    · have l1 : decide ((n : Int) < (k : Int)) = false := decide_eq_false (by omega)
      have l2 : decide (n < k) = false := decide_eq_false hlt
      go_wp2
      go_ret
      obtain ⟨cur, hb, _, hp⟩ := hcur.out
      exact ⟨_, rfl, fun j hj => by rw [blk_cell hb]; exact hp j (by omega), HB.out⟩
theorem rep_C_ {w w3 : World} {A0 : Option Addr} {c0 : Nat} {l0 : List Int} (hr : Kd.C (Kd.int .u32) w A0 l0.length l0) (hc : l0.length ≤ c0) (hb : Below w.heap.size w w3) {gr n : Nat} (hn : n < 65)
    (hcell : ∀ j, j < n → w3.cell? ⟨gr, j, none⟩ = some (.slice A0 l0.length c0)) : Kd.C (Kd.slice 89 (Kd.int .u32)) w3 (some ⟨gr, 0, none⟩) (List.replicate n l0).length (List.replicate n l0) := by
  refine ⟨rfl, by rw [List.length_replicate]; omega, fun _ => ⟨⟨gr, 0, none⟩, rfl, fun j p hj => ?_⟩⟩
  obtain ⟨hjl, he⟩ := List.getElem?_eq_some_iff.1 hj
  rw [List.length_replicate] at hjl
  rw [List.getElem_replicate] at he
  subst he
  refine ⟨[.slice A0 l0.length c0], rfl, ⟨A0, c0, rfl, hc, Kd.C_below hr hb⟩, fun i u hu => ?_⟩
  obtain ⟨hil, hu⟩ := List.getElem?_eq_some_iff.1 hu
  have hi0 : i = 0 := by simpa using hil
  subst hi0
  have hadd : (⟨gr, 0, none⟩ : Addr).add (j * (Kd.slice 89 (Kd.int .u32)).sz + 0) = ⟨gr, j, none⟩ := by
    show (⟨gr, 0, none⟩ : Addr).add (j * 1 + 0) = _
    rw [Nat.mul_one, Nat.add_zero]; unfold Addr.add; split <;> simp_all
  rw [hadd, hcell j hjl]
  exact congrArg some (by simpa using hu)
def nat_Pow.f (k : Nat) (l0 : List Int) (a1 : Int) : Option (List Int × Int) := (nat_Right.f k l0).bind fun t => if t = true then (if 0 ≤ a1 ∧ a1 ≤ 64 then nat_Mul.f k (List.replicate a1.toNat l0) else some ([], 1)) else some ([], 1)
theorem nat_Pow.mono : ∀ a0 a1 k, LeO (nat_Pow.f k a0 a1) (nat_Pow.f (k + 1) a0 a1) := by
  intro a0 a1 k
  unfold nat_Pow.f
  refine LeO.bind (nat_Right.mono _ _) (fun _ => LeO.ite (LeO.ite (nat_Mul.mono _ _) (LeO.refl _)) (LeO.refl _))
set_option maxHeartbeats 8000000 in
set_option maxRecDepth 100000 in
theorem nat_Pow.calls (k : Nat) (A0 : Option Addr) (c0 : Nat) (l0 : List Int) (a1 : Int) (r1 : List Int) (r2 : Int) (w : World) (hr0 : Kd.C (Kd.int .u32) w A0 l0.length l0) (hc0 : l0.length ≤ c0) (h : nat_Pow.f k l0 a1 = some (r1, r2)) :
    Calls Tryz.prog 90 #[.slice A0 l0.length c0, .int .i64 a1] w fun e w' => ∃ v0_ : Value, e = .returned (.tuple #[v0_, .int .i64 r2]) ∧ Kd.V (Kd.int .u32) 89 w' w.heap.size (fun k_ => (w.heap.size ≤ k_)) v0_ r1 ∧ Below w.heap.size w w' := by
  have HR0 := Aside0.mk hr0
  have HC0 := Aside0.mk hc0
  clear hr0 hc0
  have H : ((nat_Right.f k l0).bind fun t => if t = true then (if 0 ≤ a1 ∧ a1 ≤ 64 then nat_Mul.f k (List.replicate a1.toNat l0) else some ([], 1)) else some ([], 1)) = some (r1, r2) := h
  clear h
  replace H := Option.bind_eq_some_iff.mp H
  obtain ⟨t, A1, H⟩ := H
  have A1 := Aside0.mk A1
  cases t with
  | false =>
    rw [if_neg (by decide)] at H
    simp only [Option.some.injEq, Prod.mk.injEq] at H
    obtain ⟨rfl, rfl⟩ := H
    go_enter Tryz.func90, Tryz.ntmps90
    go_wp2_with (first | ((with_reducible refine gate_callee (f := 110) rfl ?_); refine goesL_ (some 7) rfl rfl Tryz.func110 (by kernel_rfl) rfl #[.slice A0 l0.length c0] rfl (by (try simp only [List.map_toArray, List.map_cons, List.map_nil]); first | done | rfl) ?_; (with_reducible refine (nat_Right.calls k _ _ l0 false _ ?side1 ?side2 A1.out).mono ?_); (case side1 => exact HR0.out); (case side2 => exact HC0.out); rintro e w2 ⟨rfl, hb_⟩; have HB := Aside0.mk hb_; clear hb_; refine ⟨_, rfl, ?_⟩))
    go_ret2
    exact ⟨_, by first | rfl | (simp; done), Kd.V_nil _ _ _ _ _, HB.out⟩
  | true =>
    rw [if_pos rfl] at H
    by_cases h1 : 0 ≤ a1
    · by_cases h2 : a1 ≤ 64
      · rw [if_pos ⟨h1, h2⟩] at H
        obtain ⟨n, rfl⟩ := Int.eq_ofNat_of_zero_le h1
        rw [Int.toNat_natCast] at H
        have hn : n < 65 := by omega
        have A2 := Aside0.mk H
        clear H
        have d1 : decide ((n : Int) < 0) = false := decide_eq_false (by omega)
        have d2 : decide ((n : Int) > 64) = false := decide_eq_false (by omega)
        have d3 : decide ((64 : Int) < (n : Int)) = false := decide_eq_false (by omega)
        go_enter Tryz.func90, Tryz.ntmps90
        go_wp2_with (first | ((with_reducible refine gate_callee (f := 110) rfl ?_); refine goesL_ (some 7) rfl rfl Tryz.func110 (by kernel_rfl) rfl #[.slice A0 l0.length c0] rfl (by (try simp only [List.map_toArray, List.map_cons, List.map_nil]); first | done | rfl) ?_; (with_reducible refine (nat_Right.calls k _ _ l0 true _ ?side1 ?side2 A1.out).mono ?_); (case side1 => exact HR0.out); (case side2 => exact HC0.out); rintro e w2 ⟨rfl, hb_⟩; have HB := Aside0.mk hb_; clear hb_; refine ⟨_, rfl, ?_⟩) | ((with_reducible refine gate_callee (f := 111) rfl ?_); refine goesL_ (some 20) rfl rfl Tryz.func111 (by kernel_rfl) rfl #[.slice (some ⟨w2.heap.size, 0, none⟩) 1 1, .int .i64 n] rfl (by (try simp only [List.map_toArray, List.map_cons, List.map_nil]); first | done | rfl) ?_; refine (Repeat_calls_ (.slice A0 l0.length c0) rfl w2.heap.size n hn _ (heap_alloc_new w2 _)).mono ?_; rintro e w3 ⟨gr, rfl, hc_, hb_⟩; have HC2 := Aside0.mk hc_; have HB2 := Aside0.mk (below_step (below_alloc HB.out _) hb_); clear hc_ hb_; refine ⟨_, rfl, ?_⟩) | ((with_reducible refine gate_callee (f := 101) rfl ?_); refine goesL_ (some 21) rfl rfl Tryz.func101 (by kernel_rfl) rfl #[.slice (some ⟨gr, 0, none⟩) (List.replicate n l0).length n] rfl (by rw [List.length_replicate]; (try simp only [List.map_toArray, List.map_cons, List.map_nil]); first | done | rfl) ?_; refine (nat_Mul.calls k _ _ (List.replicate n l0) r1 r2 _ (rep_C_ HR0.out HC0.out HB2.out hn HC2.out) (by rw [List.length_replicate]; exact Nat.le_refl _) A2.out).mono ?_; rintro e w4 ⟨v0, rfl, hv_, hb_⟩; have HV := Aside0.mk (Kd.V_mono hv_ (fun k_ hk_ => Nat.le_trans (below_size HB2.out) hk_)); have HB4 := Aside0.mk (below_step HB2.out hb_); clear hv_ hb_; refine ⟨_, rfl, ?_⟩))
        go_ret2
        exact ⟨v0, rfl, Kd.V_lower HV.out (below_size HB2.out), HB4.out⟩
      · rw [if_neg (by omega)] at H
        simp only [Option.some.injEq, Prod.mk.injEq] at H
        obtain ⟨rfl, rfl⟩ := H
        have d1 : decide (a1 < 0) = false := decide_eq_false (by omega)
        have d2 : decide (a1 > 64) = true := decide_eq_true (by omega)
        have d3 : decide ((64 : Int) < a1) = true := decide_eq_true (by omega)
        go_enter Tryz.func90, Tryz.ntmps90
        go_wp2_with (first | ((with_reducible refine gate_callee (f := 110) rfl ?_); refine goesL_ (some 7) rfl rfl Tryz.func110 (by kernel_rfl) rfl #[.slice A0 l0.length c0] rfl (by (try simp only [List.map_toArray, List.map_cons, List.map_nil]); first | done | rfl) ?_; (with_reducible refine (nat_Right.calls k _ _ l0 true _ ?side1 ?side2 A1.out).mono ?_); (case side1 => exact HR0.out); (case side2 => exact HC0.out); rintro e w2 ⟨rfl, hb_⟩; have HB := Aside0.mk hb_; clear hb_; refine ⟨_, rfl, ?_⟩))
        go_ret2
        exact ⟨_, by first | rfl | (simp; done), Kd.V_nil _ _ _ _ _, HB.out⟩
    · rw [if_neg (by omega)] at H
      simp only [Option.some.injEq, Prod.mk.injEq] at H
      obtain ⟨rfl, rfl⟩ := H
      have d1 : decide (a1 < 0) = true := decide_eq_true (by omega)
      go_enter Tryz.func90, Tryz.ntmps90
      go_wp2_with (first | ((with_reducible refine gate_callee (f := 110) rfl ?_); refine goesL_ (some 7) rfl rfl Tryz.func110 (by kernel_rfl) rfl #[.slice A0 l0.length c0] rfl (by (try simp only [List.map_toArray, List.map_cons, List.map_nil]); first | done | rfl) ?_; (with_reducible refine (nat_Right.calls k _ _ l0 true _ ?side1 ?side2 A1.out).mono ?_); (case side1 => exact HR0.out); (case side2 => exact HC0.out); rintro e w2 ⟨rfl, hb_⟩; have HB := Aside0.mk hb_; clear hb_; refine ⟨_, rfl, ?_⟩))
      go_ret2
      exact ⟨_, by first | rfl | (simp; done), Kd.V_nil _ _ _ _ _, HB.out⟩
def odds_game_lost.f (k : Nat) (a0_0 : Int) (a0_1 : Int) : Option (List Int × Int) := (uniform_Need.f k a0_0).bind fun t193 => ((nat_Two.f t193).bind fun bt194 => (if bt194.2 = 0 then ((nat_Of.f k a0_0).bind fun t198 => ((nat_Sub.f k bt194.1 t198).bind fun bt201 => (if bt201.2 = 0 then ((nat_Pow.f k bt201.1 a0_1).bind fun bt205 => (some (bt205.1, bt205.2))) else (some (([] : List Int), bt201.2))))) else (some (([] : List Int), bt194.2))))
theorem odds_game_lost.mono : ∀ a0 a1 k, LeO (odds_game_lost.f k a0 a1) (odds_game_lost.f (k + 1) a0 a1) := by
 intro a0 a1 k
 unfold odds_game_lost.f
 repeat' first
   | (with_reducible exact nat_Of.mono _ _)
   | (with_reducible exact nat_Pow.mono _ _ _)
   | (with_reducible exact nat_Sub.mono _ _ _)
   | (with_reducible exact uniform_Need.mono _ _)
   | (with_reducible exact LeO.refl _)
   | (with_reducible exact LeO.none _)
   | (with_reducible refine LeO.ite ?_ ?_)
   | (with_reducible refine LeO.bind ?_ (fun _ => ?_))
   | exact nat_Of.mono _ _
   | exact nat_Pow.mono _ _ _
   | exact nat_Sub.mono _ _ _
   | exact uniform_Need.mono _ _
   | exact LeO.none _
   | refine LeO.ite ?_ ?_
   | refine LeO.bind ?_ (fun _ => ?_)
set_option maxHeartbeats 8000000 in
set_option maxRecDepth 100000 in
theorem odds_game_lost.calls (k : Nat) (a0_0 : Int) (a0_1 : Int) (r1 : List Int) (r2 : Int) (w : World) (h : odds_game_lost.f k a0_0 a0_1 = some (r1, r2)) :
  Calls Tryz.prog 61 #[.agg #[.int .u64 a0_0, .int .i64 a0_1]] w fun e w' => ∃ v0_ : Value, e = .returned (.tuple #[v0_, .int .i64 r2]) ∧ Kd.V (Kd.int .u32) 89 w' w.heap.size (fun k_ => (w.heap.size ≤ k_)) v0_ r1 ∧ Below w.heap.size w w' := by
 have hu105 := Tryz.underlying105
 have HB := Aside0.mk (Below.refl w.heap.size w)
 have H : ((uniform_Need.f k a0_0).bind fun t193 => ((nat_Two.f t193).bind fun bt194 => (if bt194.2 = 0 then ((nat_Of.f k a0_0).bind fun t198 => ((nat_Sub.f k bt194.1 t198).bind fun bt201 => (if bt201.2 = 0 then ((nat_Pow.f k bt201.1 a0_1).bind fun bt205 => (some (bt205.1, bt205.2))) else (some (([] : List Int), bt201.2))))) else (some (([] : List Int), bt194.2))))) = some (r1, r2) := h
 clear h
 replace H := Option.bind_eq_some_iff.mp H
 obtain ⟨t193, A20, H⟩ := H
 try dsimp only at H
 have A2 := Aside0.mk A20
 clear A20
 replace H := Option.bind_eq_some_iff.mp H
 obtain ⟨⟨t194, t195⟩, A30, H⟩ := H
 try dsimp only at H
 have A3 := Aside0.mk A30
 clear A30
 by_cases c4 : t195 = 0
 ·rw [if_pos c4] at H
  have c4b0 : (t195 == 0) = true := beq_iff_eq.mpr c4
  have c4b1 : (t195 != 0) = false := bne_eq_false_iff_eq.mpr c4
  clear c4
  replace H := Option.bind_eq_some_iff.mp H
  obtain ⟨t198, A50, H⟩ := H
  try dsimp only at H
  have A5 := Aside0.mk A50
  clear A50
  replace H := Option.bind_eq_some_iff.mp H
  obtain ⟨⟨t201, t204⟩, A60, H⟩ := H
  try dsimp only at H
  have A6 := Aside0.mk A60
  clear A60
  by_cases c7 : t204 = 0
  ·rw [if_pos c7] at H
   have c7b0 : (t204 == 0) = true := beq_iff_eq.mpr c7
   have c7b1 : (t204 != 0) = false := bne_eq_false_iff_eq.mpr c7
   clear c7
   replace H := Option.bind_eq_some_iff.mp H
   obtain ⟨⟨t205, t208⟩, A80, H⟩ := H
   try dsimp only at H
   have A8 := Aside0.mk A80
   clear A80
   simp only [Option.some.injEq, Prod.mk.injEq] at H
   obtain ⟨rfl, rfl⟩ := H
   go_enter Tryz.func61, Tryz.ntmps61
   go_wp2_with (first | ((with_reducible refine qd 1 ?_); refine box_event ?hg (N := 1) ?hd (cs := #[.int .u64 a0_0, .int .i64 a0_1]) (t := 105) ?hr ?_; (case hd => rfl); (case hg => rfl); (case hr => first | (go_simp; done) | (go_simp; rfl)); intro gb192 hg w9 hbox hb; have BK192 := Aside0.mk (hbox); have GW192 := Aside0.mk (qe HB hg); have GE192 := Aside0.mk (qe HB hg); replace HB := Aside0.mk (below_step (qs HB) hb); clear hb hbox hg; have hcz10_0 : w9.cell? ⟨gb192, 0, none⟩ = some (.int .u64 a0_0) := (blk_cell BK192.out 0).trans rfl; have hcz10_1 : w9.cell? ⟨gb192, 1, none⟩ = some (.int .i64 a0_1) := (blk_cell BK192.out 1).trans rfl; have hfz10_0 := blk_frozen BK192.out 0; have hfz10_1 := blk_frozen BK192.out 1) | ((with_reducible refine gate_callee (f := 70) rfl ?_); refine goesL_ (some 10) rfl rfl Tryz.func70 (by kernel_rfl) rfl #[.int .u64 a0_0] rfl ql ?_; (with_reducible refine (uniform_Need.calls k a0_0 t193 _ A2.out).mono ?_); rintro e w11 ⟨rfl, hb⟩; refine ⟨_, rfl, ?_⟩; replace BK192 := Aside0.mk (qB BK192 hb); replace HB := Aside0.mk (below_step (qs HB) hb); (try clear hb); (try clear hb2); (try clear hk); (try clear hi)) | ((with_reducible refine gate_callee (f := 87) rfl ?_); refine goesL_ (some 11) rfl rfl Tryz.func87 (by kernel_rfl) rfl #[.int .i64 t193] rfl ql ?_; (with_reducible refine (nat_Two.calls t193 t194 t195 _ A3.out).mono ?_); rintro e w12 ⟨v196, rfl, ho0, hb⟩; refine ⟨_, rfl, ?_⟩; have HO197 := Aside0.mk (Kd.R_lower (Kd.R_newM (M := fun k_ => (w.heap.size ≤ k_)) ho0 (below_size (qs HB)) (fun k_ h_ => h_)) (below_size (qs HB))); replace BK192 := Aside0.mk (qB BK192 hb); replace HB := Aside0.mk (below_step (qs HB) hb); (try clear hb); (try clear hb2); (try clear hk); (try clear hi); (try clear ho0); have hcz13_0 : w12.cell? ⟨gb192, 0, none⟩ = some (.int .u64 a0_0) := (blk_cell BK192.out 0).trans rfl; have hcz13_1 : w12.cell? ⟨gb192, 1, none⟩ = some (.int .i64 a0_1) := (blk_cell BK192.out 1).trans rfl; have hfz13_0 := blk_frozen BK192.out 0; have hfz13_1 := blk_frozen BK192.out 1) | ((with_reducible refine gate_callee (f := 89) rfl ?_); refine goesL_ (some 21) rfl rfl Tryz.func89 (by kernel_rfl) rfl #[.int .u64 a0_0] rfl ql ?_; (with_reducible refine (nat_Of.calls k a0_0 t198 _ A5.out).mono ?_); rintro e w14 ⟨v199, rfl, ho0, hb⟩; refine ⟨_, rfl, ?_⟩; have HO200 := Aside0.mk (Kd.V_lower (Kd.V_mono (ok' := fun k_ => (w.heap.size ≤ k_) ∧ some k_ ≠ (v196 : Value).ownBlock ∧ k_ ≠ gb192) ho0 (fun k_ hk_ => ⟨(Nat.le_trans (below_size (qs HB)) hk_), (Kd.fresh' (Kd.R_lt (qr HO197)) k_ hk_), (Kd.freshB (g := gb192) (o := .cells #[.int .u64 a0_0, .int .i64 a0_1] 105 (0, 0)) (qb BK192) k_ hk_)⟩)) (below_size (qs HB))); replace HO197 := Aside0.mk (Kd.R_below (qr HO197) hb); replace BK192 := Aside0.mk (qB BK192 hb); replace HB := Aside0.mk (below_step (qs HB) hb); (try clear hb); (try clear hb2); (try clear hk); (try clear hi); (try clear ho0); obtain ⟨Ao15, co15, eo15⟩ := Kd.R_slice HO197.out; subst eo15; obtain ⟨Ao16, co16, eo16⟩ := Kd.V_slice HO200.out; subst eo16) | ((with_reducible refine gate_callee (f := 88) rfl ?_); refine goesL_ (some 22) rfl rfl Tryz.func88 (by kernel_rfl) rfl #[.slice Ao15 t194.length co15, .slice Ao16 t198.length co16] rfl ql ?_; (with_reducible refine (nat_Sub.calls k (fun k_ => some k_ = (.slice Ao15 t194.length co15 : Value).ownBlock) _ _ t194 (fun k_ => ((w.heap.size ≤ k_) ∧ (some k_ ≠ (.slice Ao15 t194.length co15 : Value).ownBlock ∧ k_ ≠ gb192))) _ _ t198 t201 t204 _ ?side1 ?side2 A6.out).mono ?_); (case side1 => exact Kd.R_V (Kd.R_tight rfl (Kd.R_types (HO197.out) BK192.out (by decide)))); (case side2 => exact HO200.out); rintro e w17 ⟨v202, rfl, ho0, hb⟩; refine ⟨_, rfl, ?_⟩; replace HO200 := Aside0.mk (Kd.V_below (qv HO200) hb); have HO203 := Aside0.mk (Kd.V_lower (Kd.V_mono (ok' := fun k_ => (w.heap.size ≤ k_) ∧ k_ ≠ gb192) ho0 (fun k_ hk_ => ⟨Or.elim hk_ (fun hs_ => Or.elim hs_ (fun hs_ => ((Kd.R_types (HO197.out) BK192.out (by decide)).1 k_ hs_.symm).1.1) (fun hs_ => hs_.1)) (fun hn_ => (Nat.le_trans (below_size (qs HB)) hn_)), Or.elim hk_ (fun hs_ => Or.elim hs_ (fun hs_ => ((Kd.R_types (HO197.out) BK192.out (by decide)).1 k_ hs_.symm).2) (fun hs_ => hs_.2.2)) (fun hn_ => (Kd.freshB (g := gb192) (o := .cells #[.int .u64 a0_0, .int .i64 a0_1] 105 (0, 0)) (qb BK192) k_ hn_))⟩)) (below_size (qs HB))); replace HO197 := Aside0.mk (Kd.R_below (qr HO197) hb); replace BK192 := Aside0.mk (qB BK192 hb); replace HB := Aside0.mk (below_step (qs HB) hb); (try clear hb); (try clear hb2); (try clear hk); (try clear hi); (try clear ho0); have hcz18_0 : w17.cell? ⟨gb192, 0, none⟩ = some (.int .u64 a0_0) := (blk_cell BK192.out 0).trans rfl; have hcz18_1 : w17.cell? ⟨gb192, 1, none⟩ = some (.int .i64 a0_1) := (blk_cell BK192.out 1).trans rfl; have hfz18_0 := blk_frozen BK192.out 0; have hfz18_1 := blk_frozen BK192.out 1; obtain ⟨Ao19, co19, eo19⟩ := Kd.V_slice HO203.out; subst eo19) | ((with_reducible refine gate_callee (f := 90) rfl ?_); refine goesL_ (some 31) rfl rfl Tryz.func90 (by kernel_rfl) rfl #[.slice Ao19 t201.length co19, .int .i64 a0_1] rfl ql ?_; (with_reducible refine (nat_Pow.calls k _ _ t201 a0_1 t205 t208 _ ?side1 ?side2 A8.out).mono ?_); (case side1 => repeat (first | exact (Kd.V_reads' HO203.out).2.2 | (with_reducible refine Kd.C_alloc ?_ _) | (with_reducible refine Kd.C_drewN ?_ _) | (with_reducible refine Kd.C_drew ?_))); (case side2 => exact (Kd.V_reads' HO203.out).2.1); rintro e w20 ⟨v206, rfl, ho0, hb⟩; refine ⟨_, rfl, ?_⟩; replace HO200 := Aside0.mk (Kd.V_below (qv HO200) hb); replace HO203 := Aside0.mk (Kd.V_below (qv HO203) hb); have HO207 := Aside0.mk (Kd.V_lower (Kd.V_mono (ok' := fun k_ => (w.heap.size ≤ k_) ∧ some k_ ≠ (.slice Ao15 t194.length co15 : Value).ownBlock ∧ k_ ≠ gb192) ho0 (fun k_ hk_ => ⟨(Nat.le_trans (below_size (qs HB)) hk_), (Kd.fresh' (Kd.R_lt (qr HO197)) k_ hk_), (Kd.freshB (g := gb192) (o := .cells #[.int .u64 a0_0, .int .i64 a0_1] 105 (0, 0)) (qb BK192) k_ hk_)⟩)) (below_size (qs HB))); replace HO197 := Aside0.mk (Kd.R_below (qr HO197) hb); replace BK192 := Aside0.mk (qB BK192 hb); replace HB := Aside0.mk (below_step (qs HB) hb); (try clear hb); (try clear hb2); (try clear hk); (try clear hi); (try clear ho0)))
   go_ret2
   exact ⟨_, by first | rfl | (simp [errW_none, errW_some] <;> rfl) | (simp [*, errW_none, errW_some] <;> rfl), by (with_reducible repeat (first | apply Kd.V_alloc | apply Kd.V_drewN | apply Kd.V_drew)); exact Kd.V_mono HO207.out (fun _ hk => hk.1), (qs HB)⟩
  ·rw [if_neg c7] at H
   have c7b0 : (t204 == 0) = false := beq_eq_false_iff_ne.mpr c7
   have c7b1 : (t204 != 0) = true := bne_iff_ne.mpr c7
   simp only [Option.some.injEq, Prod.mk.injEq] at H
   obtain ⟨rfl, rfl⟩ := H
   go_enter Tryz.func61, Tryz.ntmps61
   go_wp2_with (first | ((with_reducible refine qd 1 ?_); refine box_event ?hg (N := 1) ?hd (cs := #[.int .u64 a0_0, .int .i64 a0_1]) (t := 105) ?hr ?_; (case hd => rfl); (case hg => rfl); (case hr => first | (go_simp; done) | (go_simp; rfl)); intro gb192 hg w21 hbox hb; have BK192 := Aside0.mk (hbox); have GW192 := Aside0.mk (qe HB hg); have GE192 := Aside0.mk (qe HB hg); replace HB := Aside0.mk (below_step (qs HB) hb); clear hb hbox hg; have hcz22_0 : w21.cell? ⟨gb192, 0, none⟩ = some (.int .u64 a0_0) := (blk_cell BK192.out 0).trans rfl; have hcz22_1 : w21.cell? ⟨gb192, 1, none⟩ = some (.int .i64 a0_1) := (blk_cell BK192.out 1).trans rfl; have hfz22_0 := blk_frozen BK192.out 0; have hfz22_1 := blk_frozen BK192.out 1) | ((with_reducible refine gate_callee (f := 70) rfl ?_); refine goesL_ (some 10) rfl rfl Tryz.func70 (by kernel_rfl) rfl #[.int .u64 a0_0] rfl ql ?_; (with_reducible refine (uniform_Need.calls k a0_0 t193 _ A2.out).mono ?_); rintro e w23 ⟨rfl, hb⟩; refine ⟨_, rfl, ?_⟩; replace BK192 := Aside0.mk (qB BK192 hb); replace HB := Aside0.mk (below_step (qs HB) hb); (try clear hb); (try clear hb2); (try clear hk); (try clear hi)) | ((with_reducible refine gate_callee (f := 87) rfl ?_); refine goesL_ (some 11) rfl rfl Tryz.func87 (by kernel_rfl) rfl #[.int .i64 t193] rfl ql ?_; (with_reducible refine (nat_Two.calls t193 t194 t195 _ A3.out).mono ?_); rintro e w24 ⟨v196, rfl, ho0, hb⟩; refine ⟨_, rfl, ?_⟩; have HO197 := Aside0.mk (Kd.R_lower (Kd.R_newM (M := fun k_ => (w.heap.size ≤ k_)) ho0 (below_size (qs HB)) (fun k_ h_ => h_)) (below_size (qs HB))); replace BK192 := Aside0.mk (qB BK192 hb); replace HB := Aside0.mk (below_step (qs HB) hb); (try clear hb); (try clear hb2); (try clear hk); (try clear hi); (try clear ho0); have hcz25_0 : w24.cell? ⟨gb192, 0, none⟩ = some (.int .u64 a0_0) := (blk_cell BK192.out 0).trans rfl; have hcz25_1 : w24.cell? ⟨gb192, 1, none⟩ = some (.int .i64 a0_1) := (blk_cell BK192.out 1).trans rfl; have hfz25_0 := blk_frozen BK192.out 0; have hfz25_1 := blk_frozen BK192.out 1) | ((with_reducible refine gate_callee (f := 89) rfl ?_); refine goesL_ (some 21) rfl rfl Tryz.func89 (by kernel_rfl) rfl #[.int .u64 a0_0] rfl ql ?_; (with_reducible refine (nat_Of.calls k a0_0 t198 _ A5.out).mono ?_); rintro e w26 ⟨v199, rfl, ho0, hb⟩; refine ⟨_, rfl, ?_⟩; have HO200 := Aside0.mk (Kd.V_lower (Kd.V_mono (ok' := fun k_ => (w.heap.size ≤ k_) ∧ some k_ ≠ (v196 : Value).ownBlock ∧ k_ ≠ gb192) ho0 (fun k_ hk_ => ⟨(Nat.le_trans (below_size (qs HB)) hk_), (Kd.fresh' (Kd.R_lt (qr HO197)) k_ hk_), (Kd.freshB (g := gb192) (o := .cells #[.int .u64 a0_0, .int .i64 a0_1] 105 (0, 0)) (qb BK192) k_ hk_)⟩)) (below_size (qs HB))); replace HO197 := Aside0.mk (Kd.R_below (qr HO197) hb); replace BK192 := Aside0.mk (qB BK192 hb); replace HB := Aside0.mk (below_step (qs HB) hb); (try clear hb); (try clear hb2); (try clear hk); (try clear hi); (try clear ho0); obtain ⟨Ao27, co27, eo27⟩ := Kd.R_slice HO197.out; subst eo27; obtain ⟨Ao28, co28, eo28⟩ := Kd.V_slice HO200.out; subst eo28) | ((with_reducible refine gate_callee (f := 88) rfl ?_); refine goesL_ (some 22) rfl rfl Tryz.func88 (by kernel_rfl) rfl #[.slice Ao27 t194.length co27, .slice Ao28 t198.length co28] rfl ql ?_; (with_reducible refine (nat_Sub.calls k (fun k_ => some k_ = (.slice Ao27 t194.length co27 : Value).ownBlock) _ _ t194 (fun k_ => ((w.heap.size ≤ k_) ∧ (some k_ ≠ (.slice Ao27 t194.length co27 : Value).ownBlock ∧ k_ ≠ gb192))) _ _ t198 t201 t204 _ ?side1 ?side2 A6.out).mono ?_); (case side1 => exact Kd.R_V (Kd.R_tight rfl (Kd.R_types (HO197.out) BK192.out (by decide)))); (case side2 => exact HO200.out); rintro e w29 ⟨v202, rfl, ho0, hb⟩; refine ⟨_, rfl, ?_⟩; replace HO200 := Aside0.mk (Kd.V_below (qv HO200) hb); have HO203 := Aside0.mk (Kd.V_lower (Kd.V_mono (ok' := fun k_ => (w.heap.size ≤ k_) ∧ k_ ≠ gb192) ho0 (fun k_ hk_ => ⟨Or.elim hk_ (fun hs_ => Or.elim hs_ (fun hs_ => ((Kd.R_types (HO197.out) BK192.out (by decide)).1 k_ hs_.symm).1.1) (fun hs_ => hs_.1)) (fun hn_ => (Nat.le_trans (below_size (qs HB)) hn_)), Or.elim hk_ (fun hs_ => Or.elim hs_ (fun hs_ => ((Kd.R_types (HO197.out) BK192.out (by decide)).1 k_ hs_.symm).2) (fun hs_ => hs_.2.2)) (fun hn_ => (Kd.freshB (g := gb192) (o := .cells #[.int .u64 a0_0, .int .i64 a0_1] 105 (0, 0)) (qb BK192) k_ hn_))⟩)) (below_size (qs HB))); replace HO197 := Aside0.mk (Kd.R_below (qr HO197) hb); replace BK192 := Aside0.mk (qB BK192 hb); replace HB := Aside0.mk (below_step (qs HB) hb); (try clear hb); (try clear hb2); (try clear hk); (try clear hi); (try clear ho0)))
   go_ret2
   exact ⟨_, by first | rfl | (simp [errW_none, errW_some] <;> rfl) | (simp [*, errW_none, errW_some] <;> rfl), Kd.V_nil _ _ _ _ _, (qs HB)⟩
 ·rw [if_neg c4] at H
  have c4b0 : (t195 == 0) = false := beq_eq_false_iff_ne.mpr c4
  have c4b1 : (t195 != 0) = true := bne_iff_ne.mpr c4
  simp only [Option.some.injEq, Prod.mk.injEq] at H
  obtain ⟨rfl, rfl⟩ := H
  go_enter Tryz.func61, Tryz.ntmps61
  go_wp2_with (first | ((with_reducible refine qd 1 ?_); refine box_event ?hg (N := 1) ?hd (cs := #[.int .u64 a0_0, .int .i64 a0_1]) (t := 105) ?hr ?_; (case hd => rfl); (case hg => rfl); (case hr => first | (go_simp; done) | (go_simp; rfl)); intro gb192 hg w30 hbox hb; have BK192 := Aside0.mk (hbox); have GW192 := Aside0.mk (qe HB hg); have GE192 := Aside0.mk (qe HB hg); replace HB := Aside0.mk (below_step (qs HB) hb); clear hb hbox hg; have hcz31_0 : w30.cell? ⟨gb192, 0, none⟩ = some (.int .u64 a0_0) := (blk_cell BK192.out 0).trans rfl; have hcz31_1 : w30.cell? ⟨gb192, 1, none⟩ = some (.int .i64 a0_1) := (blk_cell BK192.out 1).trans rfl; have hfz31_0 := blk_frozen BK192.out 0; have hfz31_1 := blk_frozen BK192.out 1) | ((with_reducible refine gate_callee (f := 70) rfl ?_); refine goesL_ (some 10) rfl rfl Tryz.func70 (by kernel_rfl) rfl #[.int .u64 a0_0] rfl ql ?_; (with_reducible refine (uniform_Need.calls k a0_0 t193 _ A2.out).mono ?_); rintro e w32 ⟨rfl, hb⟩; refine ⟨_, rfl, ?_⟩; replace BK192 := Aside0.mk (qB BK192 hb); replace HB := Aside0.mk (below_step (qs HB) hb); (try clear hb); (try clear hb2); (try clear hk); (try clear hi)) | ((with_reducible refine gate_callee (f := 87) rfl ?_); refine goesL_ (some 11) rfl rfl Tryz.func87 (by kernel_rfl) rfl #[.int .i64 t193] rfl ql ?_; (with_reducible refine (nat_Two.calls t193 t194 t195 _ A3.out).mono ?_); rintro e w33 ⟨v196, rfl, ho0, hb⟩; refine ⟨_, rfl, ?_⟩; have HO197 := Aside0.mk (Kd.R_lower (Kd.R_newM (M := fun k_ => (w.heap.size ≤ k_)) ho0 (below_size (qs HB)) (fun k_ h_ => h_)) (below_size (qs HB))); replace BK192 := Aside0.mk (qB BK192 hb); replace HB := Aside0.mk (below_step (qs HB) hb); (try clear hb); (try clear hb2); (try clear hk); (try clear hi); (try clear ho0)))
  go_ret2
  exact ⟨_, by first | rfl | (simp [errW_none, errW_some] <;> rfl) | (simp [*, errW_none, errW_some] <;> rfl), Kd.V_nil _ _ _ _ _, (qs HB)⟩
mutual
def nat_Div.j0 : Nat → List Int → Int → Bool → Option (List Int × Int × Int)
 | 0, _, _, _ => none
 | k + 1, x0, x1, x21 => if x21 = true then (none) else (if 0 ≤ (x0.length : Int) then (if ((x0.length : Int) : Int).toNat ≤ 70368744177664 then (nat_Div.l0 k x0 x1 (List.replicate ((x0.length : Int) : Int).toNat 0) 0 (wrap64 ((x0.length : Int) - 1))) else (none)) else (none))
def nat_Div.l0 : Nat → List Int → Int → List Int → Int → Int → Option (List Int × Int × Int)
 | 0, _, _, _, _, _ => none
 | k + 1, x0, x1, x7, x8, x9 => if x9 ≥ 0 then (nat_Div.l1 k x0 x1 x7 x8 x9 31) else ((nat_trim.f k x7).bind fun t213 => (some (t213, x8, 0)))
def nat_Div.l1 : Nat → List Int → Int → List Int → Int → Int → Int → Option (List Int × Int × Int)
 | 0, _, _, _, _, _, _ => none
 | k + 1, x0, x1, x7, x8, x9, x10 => if x10 ≥ 0 then (if 0 ≤ x9 then (if x9 < (x0.length : Int) then (if 0 ≤ x10 then (if (Go.bits .or .u64 (IntKind.u64.wrap (x8 * 2)) (IntKind.u64.wrap (Go.bits .and .u32 (shr .u32 (rd x0 x9) x10) 1))) ≥ x1 then (if x9 < (x7.length : Int) then (nat_Div.l1 k x0 x1 (x7.set (x9 : Int).toNat (Go.bits .or .u32 (rd x7 x9) (shl .u32 1 x10))) (IntKind.u64.wrap ((Go.bits .or .u64 (IntKind.u64.wrap (x8 * 2)) (IntKind.u64.wrap (Go.bits .and .u32 (shr .u32 (rd x0 x9) x10) 1))) - x1)) x9 (wrap64 (x10 - 1))) else (none)) else (nat_Div.l1 k x0 x1 x7 (Go.bits .or .u64 (IntKind.u64.wrap (x8 * 2)) (IntKind.u64.wrap (Go.bits .and .u32 (shr .u32 (rd x0 x9) x10) 1))) x9 (wrap64 (x10 - 1)))) else (none)) else (none)) else (none)) else (nat_Div.l0 k x0 x1 x7 x8 (wrap64 (x9 - 1)))
end
def nat_Div.f (k : Nat) (l0 : List Int) (a1 : Int) : Option (List Int × Int × Int) := (nat_Right.f k l0).bind fun t209 => (if t209 = true then (if a1 = 0 then (nat_Div.j0 k l0 a1 true) else (nat_Div.j0 k l0 a1 (decide (a1 ≥ 9223372036854775808)))) else (nat_Div.j0 k l0 a1 true))
theorem nat_Div.mono_l : ∀ k, (∀ y0 y1 y2, LeO (nat_Div.j0 k y0 y1 y2) (nat_Div.j0 (k + 1) y0 y1 y2)) ∧ (∀ y0 y1 y2 y3 y4, LeO (nat_Div.l0 k y0 y1 y2 y3 y4) (nat_Div.l0 (k + 1) y0 y1 y2 y3 y4)) ∧ (∀ y0 y1 y2 y3 y4 y5, LeO (nat_Div.l1 k y0 y1 y2 y3 y4 y5) (nat_Div.l1 (k + 1) y0 y1 y2 y3 y4 y5))
 | 0 => ⟨fun _ _ _ r h => by simp [nat_Div.j0] at h, fun _ _ _ _ _ r h => by simp [nat_Div.l0] at h, fun _ _ _ _ _ _ r h => by simp [nat_Div.l1] at h⟩
 | k + 1 => by
  obtain ⟨ih0, ih1, ih2⟩ := nat_Div.mono_l k
  refine ⟨?_, ?_, ?_⟩
  ·intro y0 y1 y2
   unfold nat_Div.j0
   repeat' first
   | (with_reducible exact ih0 _ _ _)
   | (with_reducible exact ih1 _ _ _ _ _)
   | (with_reducible exact ih2 _ _ _ _ _ _)
   | (with_reducible exact nat_Right.mono _ _)
   | (with_reducible exact nat_trim.mono _ _)
   | (with_reducible exact LeO.refl _)
   | (with_reducible exact LeO.none _)
   | (with_reducible refine LeO.ite ?_ ?_)
   | (with_reducible refine LeO.bind ?_ (fun _ => ?_))
   | exact ih0 _ _ _
   | exact ih1 _ _ _ _ _
   | exact ih2 _ _ _ _ _ _
   | exact nat_Right.mono _ _
   | exact nat_trim.mono _ _
   | exact LeO.none _
   | refine LeO.ite ?_ ?_
   | refine LeO.bind ?_ (fun _ => ?_)
  ·intro y0 y1 y2 y3 y4
   unfold nat_Div.l0
   repeat' first
   | (with_reducible exact ih0 _ _ _)
   | (with_reducible exact ih1 _ _ _ _ _)
   | (with_reducible exact ih2 _ _ _ _ _ _)
   | (with_reducible exact nat_Right.mono _ _)
   | (with_reducible exact nat_trim.mono _ _)
   | (with_reducible exact LeO.refl _)
   | (with_reducible exact LeO.none _)
   | (with_reducible refine LeO.ite ?_ ?_)
   | (with_reducible refine LeO.bind ?_ (fun _ => ?_))
   | exact ih0 _ _ _
   | exact ih1 _ _ _ _ _
   | exact ih2 _ _ _ _ _ _
   | exact nat_Right.mono _ _
   | exact nat_trim.mono _ _
   | exact LeO.none _
   | refine LeO.ite ?_ ?_
   | refine LeO.bind ?_ (fun _ => ?_)
  ·intro y0 y1 y2 y3 y4 y5
   unfold nat_Div.l1
   repeat' first
   | (with_reducible exact ih0 _ _ _)
   | (with_reducible exact ih1 _ _ _ _ _)
   | (with_reducible exact ih2 _ _ _ _ _ _)
   | (with_reducible exact nat_Right.mono _ _)
   | (with_reducible exact nat_trim.mono _ _)
   | (with_reducible exact LeO.refl _)
   | (with_reducible exact LeO.none _)
   | (with_reducible refine LeO.ite ?_ ?_)
   | (with_reducible refine LeO.bind ?_ (fun _ => ?_))
   | exact ih0 _ _ _
   | exact ih1 _ _ _ _ _
   | exact ih2 _ _ _ _ _ _
   | exact nat_Right.mono _ _
   | exact nat_trim.mono _ _
   | exact LeO.none _
   | refine LeO.ite ?_ ?_
   | refine LeO.bind ?_ (fun _ => ?_)
theorem nat_Div.mono : ∀ a0 a1 k, LeO (nat_Div.f k a0 a1) (nat_Div.f (k + 1) a0 a1) := by
 intro a0 a1 k
 obtain ⟨ih0, ih1, ih2⟩ := nat_Div.mono_l k
 unfold nat_Div.f
 repeat' first
   | (with_reducible exact ih0 _ _ _)
   | (with_reducible exact ih1 _ _ _ _ _)
   | (with_reducible exact ih2 _ _ _ _ _ _)
   | (with_reducible exact nat_Right.mono _ _)
   | (with_reducible exact nat_trim.mono _ _)
   | (with_reducible exact LeO.refl _)
   | (with_reducible exact LeO.none _)
   | (with_reducible refine LeO.ite ?_ ?_)
   | (with_reducible refine LeO.bind ?_ (fun _ => ?_))
   | exact ih0 _ _ _
   | exact ih1 _ _ _ _ _
   | exact ih2 _ _ _ _ _ _
   | exact nat_Right.mono _ _
   | exact nat_trim.mono _ _
   | exact LeO.none _
   | refine LeO.ite ?_ ?_
   | refine LeO.bind ?_ (fun _ => ?_)
def nat_Div.T14 : Bool × List (List Nat × List Nat) := (true, [([], []), ([], []), ([0, 1], [0, 1]), ([2], [2]), ([], []), ([4], [4]), ([3, 5], [3, 5]), ([0, 1, 0, 1, 2, 3, 4, 5, 6], [0, 1]), ([7, 6, 0, 1, 2, 3, 4, 5, 6], [6, 7])])
def nat_Div.B14 : List Nat := [0, 0, 3, 7, 0, 16, 63, 127, 255]
theorem nat_Div.tab14 : rtab .any (opsOf Tryz.f119 14) = nat_Div.T14 := by kernel_rfl
theorem nat_Div.bits14 : waitsOk nat_Div.T14.2 nat_Div.B14 = true := by kernel_rfl
set_option maxHeartbeats 8000000 in
set_option maxRecDepth 100000 in
theorem nat_Div.calls (k : Nat) (A0 : Option Addr) (c0 : Nat) (l0 : List Int) (a1 : Int) (r1 : List Int) (r2 : Int) (r3 : Int) (w : World) (hr0 : Kd.C (Kd.int .u32) w A0 l0.length l0) (hc0 : l0.length ≤ c0) (h : nat_Div.f k l0 a1 = some (r1, r2, r3)) :
  Calls Tryz.prog 119 #[.slice A0 l0.length c0, .int .u64 a1] w fun e w' => ∃ v0_ : Value, e = .returned (.tuple #[v0_, .int .u64 r2, .int .i64 r3]) ∧ Kd.V (Kd.int .u32) 89 w' w.heap.size (fun k_ => (w.heap.size ≤ k_)) v0_ r1 ∧ Below w.heap.size w w' := by
 have HR0 := Aside0.mk hr0
 have HC0 := Aside0.mk hc0
 clear hr0 hc0
 have HB := Aside0.mk (Below.refl w.heap.size w)
 have H : ((nat_Right.f k l0).bind fun t209 => (if t209 = true then (if a1 = 0 then (nat_Div.j0 k l0 a1 true) else (nat_Div.j0 k l0 a1 (decide (a1 ≥ 9223372036854775808)))) else (nat_Div.j0 k l0 a1 true))) = some (r1, r2, r3) := h
 clear h
 have HC3 := Aside0.mk H
 clear H
 go_enter Tryz.func119, Tryz.ntmps119
 go_upto_region 1 with (fail)
 go_cut [21] (fun v21 wc => ∃ (kq : Nat) (x21_2 : Bool), v21 = .bool x21_2 ∧ Aside0 (nat_Div.j0 kq l0 a1 x21_2 = some (r1, r2, r3)) ∧ Aside0 (kq ≤ k) ∧ Aside0 (Below w.heap.size w wc))
 case first =>
  have H := HC3.out
  clear HC3
  replace H := Option.bind_eq_some_iff.mp H
  obtain ⟨t209, A40, H⟩ := H
  try dsimp only at H
  have A4 := Aside0.mk A40
  clear A40
  by_cases c5 : t209 = true
  ·subst c5
   have H1 : (if a1 = 0 then (nat_Div.j0 k l0 a1 true) else (nat_Div.j0 k l0 a1 (decide (a1 ≥ 9223372036854775808)))) = some (r1, r2, r3) := by rw [if_pos rfl] at H; exact H
   clear H
   have H := H1
   clear H1
   by_cases c6 : a1 = 0
   ·rw [if_pos c6] at H
    have c6b0 : (a1 == 0) = true := beq_iff_eq.mpr c6
    have c6b1 : (a1 != 0) = false := bne_eq_false_iff_eq.mpr c6
    clear c6
    (first | rw [c6b0] | (simp only [i64_w, i32_w]; rw [c6b0]) | skip)
    have H' := Aside0.mk H
    clear H
    go_wp2_with (first | ((with_reducible refine gate_callee (f := 110) rfl ?_); refine goesL_ (some 12) rfl rfl Tryz.func110 (by kernel_rfl) rfl #[.slice A0 l0.length c0] rfl ql ?_; (with_reducible refine (nat_Right.calls k _ _ l0 true _ ?side1 ?side2 A4.out).mono ?_); (case side1 => repeat (first | exact (Kd.C_below HR0.out HB.out) | (with_reducible refine Kd.C_alloc ?_ _) | (with_reducible refine Kd.C_drewN ?_ _) | (with_reducible refine Kd.C_drew ?_))); (case side2 => exact HC0.out); rintro e w7 ⟨rfl, hb⟩; refine ⟨_, rfl, ?_⟩; replace HB := Aside0.mk (below_step (qs HB) hb); (try clear hb); (try clear hb2); (try clear hk); (try clear hi)))
    go_meet
    case rel => exact ⟨_, (true), (by first | rfl | (simp; done) | (simp [*]; done)), H', ⟨by first | omega | exact Nat.le_refl _⟩, ⟨(qs HB)⟩⟩
   ·rw [if_neg c6] at H
    have c6b0 : (a1 == 0) = false := beq_eq_false_iff_ne.mpr c6
    have c6b1 : (a1 != 0) = true := bne_iff_ne.mpr c6
    (first | rw [c6b0] | (simp only [i64_w, i32_w]; rw [c6b0]) | skip)
    have H' := Aside0.mk H
    clear H
    go_wp2_with (first | ((with_reducible refine gate_callee (f := 110) rfl ?_); refine goesL_ (some 12) rfl rfl Tryz.func110 (by kernel_rfl) rfl #[.slice A0 l0.length c0] rfl ql ?_; (with_reducible refine (nat_Right.calls k _ _ l0 true _ ?side1 ?side2 A4.out).mono ?_); (case side1 => repeat (first | exact (Kd.C_below HR0.out HB.out) | (with_reducible refine Kd.C_alloc ?_ _) | (with_reducible refine Kd.C_drewN ?_ _) | (with_reducible refine Kd.C_drew ?_))); (case side2 => exact HC0.out); rintro e w8 ⟨rfl, hb⟩; refine ⟨_, rfl, ?_⟩; replace HB := Aside0.mk (below_step (qs HB) hb); (try clear hb); (try clear hb2); (try clear hk); (try clear hi)))
    go_meet
    case rel => exact ⟨_, (decide (a1 ≥ 9223372036854775808)), (by first | rfl | (simp; done) | (simp [*]; done)), H', ⟨by first | omega | exact Nat.le_refl _⟩, ⟨(qs HB)⟩⟩
  ·replace c5 := Bool.eq_false_iff.mpr c5
   subst c5
   have H1 : (nat_Div.j0 k l0 a1 true) = some (r1, r2, r3) := by rw [if_neg (show ¬ (false = true) by decide)] at H; exact H
   clear H
   have H := H1
   clear H1
   have H' := Aside0.mk H
   clear H
   go_wp2_with (first | ((with_reducible refine gate_callee (f := 110) rfl ?_); refine goesL_ (some 12) rfl rfl Tryz.func110 (by kernel_rfl) rfl #[.slice A0 l0.length c0] rfl ql ?_; (with_reducible refine (nat_Right.calls k _ _ l0 false _ ?side1 ?side2 A4.out).mono ?_); (case side1 => repeat (first | exact (Kd.C_below HR0.out HB.out) | (with_reducible refine Kd.C_alloc ?_ _) | (with_reducible refine Kd.C_drewN ?_ _) | (with_reducible refine Kd.C_drew ?_))); (case side2 => exact HC0.out); rintro e w9 ⟨rfl, hb⟩; refine ⟨_, rfl, ?_⟩; replace HB := Aside0.mk (below_step (qs HB) hb); (try clear hb); (try clear hb2); (try clear hk); (try clear hi)))
   go_meet
   case rel => exact ⟨_, (true), (by first | rfl | (simp; done) | (simp [*]; done)), H', ⟨by first | omega | exact Nat.le_refl _⟩, ⟨(qs HB)⟩⟩
 case rest =>
  clear HC3
  try clear c1
  try clear p2
  try clear c5
  try clear c6
  try clear c6b0
  try clear c6b1
  obtain ⟨kq, x21_2, rfl, HA, HJ2, HB⟩ := hcut
  cases kq with
  | zero => exact absurd HA.out (by simp [nat_Div.j0])
  | succ kj2 =>
   have H := HA.out
   clear HA
   simp only [nat_Div.j0] at H
   by_cases c10 : x21_2 = true
   ·subst c10
    have H1 : (none) = some (r1, r2, r3) := by rw [if_pos rfl] at H; exact H
    clear H
    have H := H1
    clear H1
    exact absurd H (by simp)
   ·replace c10 := Bool.eq_false_iff.mpr c10
    subst c10
    have H1 : (if 0 ≤ (l0.length : Int) then (if ((l0.length : Int) : Int).toNat ≤ 70368744177664 then (nat_Div.l0 kj2 l0 a1 (List.replicate ((l0.length : Int) : Int).toNat 0) 0 (wrap64 ((l0.length : Int) - 1))) else (none)) else (none)) = some (r1, r2, r3) := by rw [if_neg (show ¬ (false = true) by decide)] at H; exact H
    clear H
    have H := H1
    clear H1
    by_cases c11 : 0 ≤ (l0.length : Int)
    ·rw [if_pos c11] at H
     have c11b0 := eq_true c11
     have c11b1 : decide (0 ≤ (l0.length : Int)) = true := decide_eq_true c11
     clear c11
     by_cases c12 : ((l0.length : Int) : Int).toNat ≤ 70368744177664
     ·rw [if_pos c12] at H
      have c12b0 := eq_true c12
      have c12b1 : decide (((l0.length : Int) : Int).toNat ≤ 70368744177664) = true := decide_eq_true c12
      clear c12
      obtain ⟨y210, hy210⟩ : ∃ y_ : List Int, y_ = (List.replicate ((l0.length : Int) : Int).toNat 0) := ⟨_, rfl⟩
      replace H : (nat_Div.l0 kj2 l0 a1 y210 0 (wrap64 ((l0.length : Int) - 1))) = some (r1, r2, r3) := by first | (rw [hy210]; with_reducible exact H) | (have H2_ := (Option.bind_some _ _).symm.trans H; rw [hy210]; with_reducible exact H2_) | (have H2_ := (Option.bind_some _ _).symm.trans H; with_reducible exact H2_) | with_reducible exact H | (rw [hy210]; exact H) | exact H
      have Ny210 := Aside0.mk hy210
      clear hy210
      have H' := Aside0.mk H
      clear H
      go_wp2_with (first | ((with_reducible refine qd 24 ?_); refine Kd.R_make (Kd.int .u32) _ 89 rfl (N := 24) rfl 44 _ _ rfl (l0.length : Int) rfl rfl Tryz.underlying44 (.int .u32 0) 4 info89 rfl (by decide) (by omega) 0 (ok := fun _ => True) (okp := fun _ => True) rfl (fun _ hk => hk) trivial qo (Nat.le_trans (Nat.mul_le_mul_right _ (of_decide_eq_true qa : (l0.length : Int).toNat ≤ 70368744177664)) (by omega)) (Below.refl _ _) (Nat.le_refl _) ?_; intro v211 w13 ho14 hb hg_ hnew_; clear hg_ hnew_; (first | rw [← Ny210.out] at ho14 | (simp only [Int.reduceToNat] at ho14; rw [← Ny210.out] at ho14)); have HO212 := Aside0.mk (Kd.R_lower (Kd.R_newM (M := fun k_ => (w.heap.size ≤ k_)) ho14 (below_size (qs HB)) (fun k_ h_ => h_)) (below_size (qs HB))); replace HB := Aside0.mk (below_step (qs HB) hb); clear hb ho14))
      go_loopg [8, 9] kj2 (fun kq v8 v9 w' => ∃ (x7_2 : List Int) (x8_2 : Int) (x9_2 : Int), v8 = .int .u64 x8_2 ∧ v9 = .int .i64 x9_2 ∧ Aside0 (nat_Div.l0 kq l0 a1 x7_2 x8_2 x9_2 = some (r1, r2, r3)) ∧ Aside0 (kq ≤ kj2) ∧ Aside0 (Kd.R (Kd.int .u32) 89 w' w.heap.size (fun k_ => (w.heap.size ≤ k_)) v211 x7_2) ∧ Aside0 (Below w.heap.size w w'))
      case atStart => exact ⟨(y210), (0), (wrap64 ((l0.length : Int) - 1)), (by first | rfl | (simp; done) | (simp [*]; done)), (by first | rfl | (simp; done) | (simp [*]; done)), H', ⟨Nat.le_refl _⟩, ⟨by (with_reducible repeat (first | apply Kd.R_alloc | apply Kd.R_drewN | apply Kd.R_drew)); exact Kd.R_mono HO212.out (fun _ hk => hk.1)⟩, ⟨(qs HB)⟩⟩
      case round =>
       clear H'
       try clear c1
       try clear p2
       try clear c5
       try clear c6
       try clear c6b0
       try clear c6b1
       try clear p6
       try clear c10
       try clear c11
       try clear c11b0
       try clear c11b1
       try clear c12
       try clear c12b0
       try clear c12b1
       try clear p2
       obtain ⟨x7_2, x8_2, x9_2, rfl, rfl, HA, HK2, HO_7, HB⟩ := hrel
       cases gk with
       | zero => exact absurd HA.out (by simp [nat_Div.l0])
       | succ k2 =>
        have H := HA.out
        clear HA
        simp only [nat_Div.l0] at H
        by_cases c15 : x9_2 ≥ 0
        ·rw [if_pos c15] at H
         have c15b0 : decide (0 ≤ x9_2) = true := decide_eq_true c15
         clear c15
         have H' := Aside0.mk H
         clear H
         go_wp2
         go_loopg [8, 10] k2 (fun kq v8 v10 w' => ∃ (x7_3 : List Int) (x8_3 : Int) (x10_3 : Int), v8 = .int .u64 x8_3 ∧ v10 = .int .i64 x10_3 ∧ Aside0 (nat_Div.l1 kq l0 a1 x7_3 x8_3 x9_2 x10_3 = some (r1, r2, r3)) ∧ Aside0 (kq ≤ k2) ∧ Aside0 (Kd.R (Kd.int .u32) 89 w' w.heap.size (fun k_ => (w.heap.size ≤ k_)) v211 x7_3) ∧ Aside0 (Below w.heap.size w w'))
         case atStart => exact ⟨(x7_2), (x8_2), (31), (by first | rfl | (simp; done) | (simp [*]; done)), (by first | rfl | (simp; done) | (simp [*]; done)), H', ⟨Nat.le_refl _⟩, ⟨(qr HO_7)⟩, ⟨(qs HB)⟩⟩
         case round =>
          clear H'
          try clear c1
          try clear p2
          try clear c5
          try clear c6
          try clear c6b0
          try clear c6b1
          try clear p6
          try clear c10
          try clear c11
          try clear c11b0
          try clear c11b1
          try clear c12
          try clear c12b0
          try clear c12b1
          try clear c15
          try clear c15b0
          try clear p2
          try clear p6
          obtain ⟨x7_3, x8_3, x10_3, rfl, rfl, HA, HK3, HO_7, HB⟩ := hrel
          cases gk with
          | zero => exact absurd HA.out (by simp [nat_Div.l1])
          | succ k3 =>
           have H := HA.out
           clear HA
           simp only [nat_Div.l1] at H
           by_cases c16 : x10_3 ≥ 0
           ·rw [if_pos c16] at H
            have c16b0 : decide (0 ≤ x10_3) = true := decide_eq_true c16
            clear c16
            by_cases c17 : 0 ≤ x9_2
            ·rw [if_pos c17] at H
             have c17b0 : decide (0 ≤ x9_2) = true := decide_eq_true c17
             clear c17
             by_cases c18 : x9_2 < (l0.length : Int)
             ·rw [if_pos c18] at H
              have c18b0 : decide (x9_2 < (l0.length : Int)) = true := decide_eq_true c18
              clear c18
              by_cases c19 : 0 ≤ x10_3
              ·rw [if_pos c19] at H
               have c19b0 := eq_true c19
               have c19b1 : decide (0 ≤ x10_3) = true := decide_eq_true c19
               clear c19
               obtain ⟨ji20, hji20⟩ : ∃ j_ : Int, (shr .u32 (rd l0 x9_2) x10_3) = j_ := ⟨_, rfl⟩
               replace H : (if (Go.bits .or .u64 (IntKind.u64.wrap (x8_3 * 2)) (IntKind.u64.wrap (Go.bits .and .u32 (ji20) 1))) ≥ a1 then (if x9_2 < (x7_3.length : Int) then (nat_Div.l1 k3 l0 a1 (x7_3.set (x9_2 : Int).toNat (Go.bits .or .u32 (rd x7_3 x9_2) (shl .u32 1 x10_3))) (IntKind.u64.wrap ((Go.bits .or .u64 (IntKind.u64.wrap (x8_3 * 2)) (IntKind.u64.wrap (Go.bits .and .u32 (ji20) 1))) - a1)) x9_2 (wrap64 (x10_3 - 1))) else (none)) else (nat_Div.l1 k3 l0 a1 x7_3 (Go.bits .or .u64 (IntKind.u64.wrap (x8_3 * 2)) (IntKind.u64.wrap (Go.bits .and .u32 (ji20) 1))) x9_2 (wrap64 (x10_3 - 1)))) = some (r1, r2, r3) := by first | (rw [hji20] at H; exact H) | (simp only [hji20] at H ⊢; exact H)
               have hji20_ : ((rd l0 x9_2) / 2 ^ min x10_3.toNat 32) = ji20 := hji20
               have hji20z : x10_3 ≤ 32 → ((rd l0 x9_2) / 2 ^ x10_3.toNat) = ji20 := shr_small hji20
               by_cases c21 : (Go.bits .or .u64 (IntKind.u64.wrap (x8_3 * 2)) (IntKind.u64.wrap (Go.bits .and .u32 (ji20) 1))) ≥ a1
               ·rw [if_pos c21] at H
                have c21b0 : decide (a1 ≤ (Go.bits .or .u64 (IntKind.u64.wrap (x8_3 * 2)) (IntKind.u64.wrap (Go.bits .and .u32 (ji20) 1)))) = true := decide_eq_true c21
                clear c21
                by_cases c22 : x9_2 < (x7_3.length : Int)
                ·rw [if_pos c22] at H
                 have c22b0 : decide (x9_2 < (x7_3.length : Int)) = true := decide_eq_true c22
                 clear c22
                 have c23b0 := eq_true (of_decide_eq_true qa : 0 ≤ x10_3)
                 obtain ⟨ji24, hji24⟩ : ∃ j_ : Int, (shl .u32 1 x10_3) = j_ := ⟨_, rfl⟩
                 replace H : (nat_Div.l1 k3 l0 a1 (x7_3.set (x9_2 : Int).toNat (Go.bits .or .u32 (rd x7_3 x9_2) (ji24))) (IntKind.u64.wrap ((Go.bits .or .u64 (IntKind.u64.wrap (x8_3 * 2)) (IntKind.u64.wrap (Go.bits .and .u32 (ji20) 1))) - a1)) x9_2 (wrap64 (x10_3 - 1))) = some (r1, r2, r3) := by first | (rw [hji24] at H; exact H) | (simp only [hji24] at H ⊢; exact H)
                 have hji24_ : (IntKind.u32.wrap (1 * 2 ^ min x10_3.toNat 32)) = ji24 := hji24
                 have hji24z : x10_3 ≤ 32 → (IntKind.u32.wrap (1 * 2 ^ x10_3.toNat)) = ji24 := shl_small hji24
                 have hji24u : (IntKind.u32.wrap (2 ^ min x10_3.toNat 32)) = ji24 := by have h_ := hji24_; rw [Int.one_mul] at h_; exact h_
                 have hji24v : x10_3 ≤ 32 → (IntKind.u32.wrap (2 ^ x10_3.toNat)) = ji24 := fun hle_ => by have h_ := hji24z hle_; rw [Int.one_mul] at h_; exact h_
                 obtain ⟨y218, hy218⟩ : ∃ y_ : List Int, y_ = (x7_3.set (x9_2 : Int).toNat (Go.bits .or .u32 (rd x7_3 x9_2) (ji24))) := ⟨_, rfl⟩
                 replace H : (nat_Div.l1 k3 l0 a1 y218 (IntKind.u64.wrap ((Go.bits .or .u64 (IntKind.u64.wrap (x8_3 * 2)) (IntKind.u64.wrap (Go.bits .and .u32 (ji20) 1))) - a1)) x9_2 (wrap64 (x10_3 - 1))) = some (r1, r2, r3) := by first | (rw [hy218]; with_reducible exact H) | (have H2_ := (Option.bind_some _ _).symm.trans H; rw [hy218]; with_reducible exact H2_) | (have H2_ := (Option.bind_some _ _).symm.trans H; with_reducible exact H2_) | with_reducible exact H | (rw [hy218]; exact H) | exact H
                 have Ny218 := Aside0.mk hy218
                 clear hy218
                 have H' := Aside0.mk H
                 clear H
                 have p216 : 0 ≤ (x9_2 : Int) := of_decide_eq_true qa
                 have q216 : x9_2 < (l0.length : Int) := of_decide_eq_true qa
                 obtain ⟨ad216, e216, hx216_0⟩ := Kd.at_int HR0.out x9_2 p216 q216
                 cases e216
                 replace hx216_0 := (HB.out.cell (World.block_lt_of_cell? w _ hx216_0)).trans hx216_0
                 replace p216 := eq_true p216
                 replace q216 := eq_true q216
                 try go_wp2
                 replace HO_7 := Aside0.mk (Kd.R_drew HO_7.out)
                 replace HB := Aside0.mk (below_drew1 HB.out)
                 obtain ⟨Ao27, co27, eo27⟩ := Kd.R_slice HO_7.out
                 (first | subst eo27 | (injection eo27 with f1_ f2_ f3_; have f4_ := f1_.symm; have f5_ := f3_.symm; clear f1_ f2_ f3_; subst f4_; subst f5_))
                 have p217 : 0 ≤ (x9_2 : Int) := of_decide_eq_true qa
                 have q217 : x9_2 < (x7_3.length : Int) := of_decide_eq_true qa
                 obtain ⟨ad217, e217, hx217_0⟩ := Kd.at_int (Kd.R_reads' HO_7.out).2.2 x9_2 p217 q217
                 cases e217
                 replace p217 := eq_true p217
                 replace q217 := eq_true q217
                 have p25 : 0 ≤ (x9_2 : Int) := of_decide_eq_true qa
                 have q25 : (x9_2 : Int) < ((x7_3.length : Int) : Int) := of_decide_eq_true qa
                 obtain ⟨go25, co25, eo25, gb25, gl25, cl25, HG25⟩ := Kd.R_form HO_7.out (by omega)
                 (first | cases eo25 | (injection eo25 with ea_ en_ ec_; (first | subst ea_ | (injection ea_ with ea_; subst ea_)); subst ec_; clear en_))
                 have GB25 := Aside0.mk gb25
                 have GG25 := Aside0.mk HG25
                 clear gb25 gl25 HG25
                 (first | simp only [add_plain] at hx217_0 | skip)
                 obtain ⟨hx25_0, hf25_0⟩ := Kd.R_celln 0 HO_7.out (x9_2 : Int) p25 q25
                 replace p25 := eq_true p25
                 replace q25 := eq_true q25
                 have HP28 := Kd.R_putn HO_7.out (x9_2 : Int) (Go.bits .or .u32 (rd x7_3 x9_2) (ji24))
                 rw [← Ny218.out] at HP28
                 have HQ28 := Aside0.mk HP28
                 clear HP28
                 refine start_ (n := 9) (S := fun w' => w'.cell? ⟨go25, (x9_2).toNat, none⟩ = some (.int .u32 (rd x7_3 x9_2))) (ds := [8]) #[false, false, false, false, false, false, false, false, false] (by kernel_rfl) rfl rfl (hx217_0) (fun hHeld => ?_); refine with_tabW nat_Div.tab14 nat_Div.bits14 (fun HT_ HW_ => ?_)
                 generalize wr.drew = w26 at HO_7 HB GG25 HQ28 hf25_0 hx217_0 hx25_0 hHeld ⊢
                 refine qQ 0 (some 53) (qt 9 1) (any_of HT_.out (by kernel_rfl)) ?_
                 refine qQ 1 (some 54) (qt 9 3) (any_of HT_.out (by kernel_rfl)) ?_
                 refine qQ 2 (some 55) (qt 9 7) (any_of HT_.out (by kernel_rfl)) ?_
                 refine qQ 4 (some 57) (qt 9 23) (any_of HT_.out (by kernel_rfl)) ?_
                 refine qQ 5 (some 58) (qt 9 55) (any_of HT_.out (by kernel_rfl)) ?_
                 refine take_ (i := 3) (N := some 56) (v := ?_) (a' := ?_) (qt 9 63) rfl rfl (take_ofW HT_.out HW_.out (by kernel_rfl)) (fun _ _ _ h => h) (Or.inl ⟨by rfl, ?_⟩) hHeld ?_ ?_
                 rotate_left
                 ·intro w' s0
                  go_simp
                  with_reducible rfl
                 rotate_left
                 ·simp only [Act.put, zA_, zB_, zC_, i64_w, i32_w]
                  rfl
                 refine qQ 6 (some 59) (qt 9 127) (any_of HT_.out (by kernel_rfl)) ?_
                 refine qQ 7 (some 60) (qt 9 255) (any_of HT_.out (by kernel_rfl)) ?_
                 refine last_ (i := 8) (N := none) (qt 9 511) rfl rfl (one_of HT_.out (by kernel_rfl)) (by decide) (fun K hK => ?_)
                 refine skip_ (w1 := ?_) (by rfl) rfl ?_ ?_
                 rotate_left
                 ·go_simp
                  rfl
                 refine hK.out _ _ ?_
                 clear hK K
                 refine done_ (done_of HT_.out (by kernel_rfl)) ?_
                 try go_wp2
                 go_roundg k3
                 case measure => have := HJ2.out; have := HK2.out; have := HK3.out; omega
                 case rel => exact ⟨(y218), (IntKind.u64.wrap ((Go.bits .or .u64 (IntKind.u64.wrap (x8_3 * 2)) (IntKind.u64.wrap (Go.bits .and .u32 (ji20) 1))) - a1)), (wrap64 (x10_3 - 1)), (by first | rfl | (simp; done) | (simp only [← hji20] <;> (first | rfl | simp)) | (simp [*]; done)), (by first | rfl | (simp; done) | (simp [*]; done)), H', ⟨by have := HJ2.out; have := HK2.out; have := HK3.out; omega⟩, ⟨(qr HQ28)⟩, ⟨by repeat (first | (with_reducible first | exact HB.out | apply below_alloc | apply pw_below_drewN | apply below_drew1 | refine below_set ?_ GB25.out) | exact HB.out)⟩⟩
                ·rw [if_neg c22] at H
                 exact absurd H (by simp)
               ·rw [if_neg c21] at H
                have c21b0 : decide (a1 ≤ (Go.bits .or .u64 (IntKind.u64.wrap (x8_3 * 2)) (IntKind.u64.wrap (Go.bits .and .u32 (ji20) 1)))) = false := decide_eq_false c21
                clear c21
                have H' := Aside0.mk H
                clear H
                have p216 : 0 ≤ (x9_2 : Int) := of_decide_eq_true qa
                have q216 : x9_2 < (l0.length : Int) := of_decide_eq_true qa
                obtain ⟨ad216, e216, hx216_0⟩ := Kd.at_int HR0.out x9_2 p216 q216
                cases e216
                replace hx216_0 := (HB.out.cell (World.block_lt_of_cell? w _ hx216_0)).trans hx216_0
                replace p216 := eq_true p216
                replace q216 := eq_true q216
                go_wp2
                go_roundg k3
                case measure => have := HJ2.out; have := HK2.out; have := HK3.out; omega
                case rel => exact ⟨(x7_3), (Go.bits .or .u64 (IntKind.u64.wrap (x8_3 * 2)) (IntKind.u64.wrap (Go.bits .and .u32 (ji20) 1))), (wrap64 (x10_3 - 1)), (by first | rfl | (simp; done) | (simp only [← hji20] <;> (first | rfl | simp)) | (simp [*]; done)), (by first | rfl | (simp; done) | (simp [*]; done)), H', ⟨by have := HJ2.out; have := HK2.out; have := HK3.out; omega⟩, ⟨(qr HO_7)⟩, ⟨(qs HB)⟩⟩
              ·rw [if_neg c19] at H
               exact absurd H (by simp)
             ·rw [if_neg c18] at H
              exact absurd H (by simp)
            ·rw [if_neg c17] at H
             exact absurd H (by simp)
           ·rw [if_neg c16] at H
            have c16b0 : decide (0 ≤ x10_3) = false := decide_eq_false c16
            clear c16
            have H' := Aside0.mk H
            clear H
            go_wp2
            go_roundg k3
            case measure => have := HJ2.out; have := HK2.out; have := HK3.out; omega
            case rel => exact ⟨(x7_3), (x8_3), (wrap64 (x9_2 - 1)), (by first | rfl | (simp; done) | (simp [*]; done)), (by first | rfl | (simp; done) | (simp [*]; done)), H', ⟨by have := HJ2.out; have := HK2.out; have := HK3.out; omega⟩, ⟨(qr HO_7)⟩, ⟨(qs HB)⟩⟩
        ·rw [if_neg c15] at H
         have c15b0 : decide (0 ≤ x9_2) = false := decide_eq_false c15
         clear c15
         replace H := Option.bind_eq_some_iff.mp H
         obtain ⟨t213, A290, H⟩ := H
         try dsimp only at H
         have A29 := Aside0.mk A290
         clear A290
         simp only [Option.some.injEq, Prod.mk.injEq] at H
         obtain ⟨rfl, rfl, rfl⟩ := H
         obtain ⟨Ao30, co30, eo30⟩ := Kd.R_slice HO_7.out
         subst eo30
         go_wp2_with (first | ((with_reducible refine gate_callee (f := 109) rfl ?_); refine goesL_ (some 62) rfl rfl Tryz.func109 (by kernel_rfl) rfl #[.slice Ao30 x7_2.length co30] rfl ql ?_; (with_reducible refine (nat_trim.calls k2 (fun k_ => some k_ = (.slice Ao30 x7_2.length co30 : Value).ownBlock) _ _ x7_2 t213 _ ?side1 A29.out).mono ?_); (case side1 => exact Kd.R_V (Kd.R_tight rfl (HO_7.out))); rintro e w31 ⟨v214, rfl, ho0, hb⟩; refine ⟨_, rfl, ?_⟩; have HO215 := Aside0.mk (Kd.V_lower (Kd.V_mono (ok' := fun k_ => (w.heap.size ≤ k_)) ho0 (fun k_ hk_ => Or.elim hk_ (fun hs_ => ((HO_7.out).1 k_ hs_.symm)) (fun hn_ => (Nat.le_trans (below_size (qs HB)) hn_)))) (below_size (qs HB))); replace HO_7 := Aside0.mk (Kd.R_below (qr HO_7) hb); replace HB := Aside0.mk (below_step (qs HB) hb); (try clear hb); (try clear hb2); (try clear hk); (try clear hi); (try clear ho0)))
         go_ret3
         exact ⟨_, by first | rfl | (simp [errW_none, errW_some] <;> rfl) | (simp [*, errW_none, errW_some] <;> rfl), (qv HO215), (qs HB)⟩
     ·rw [if_neg c12] at H
      exact absurd H (by simp)
    ·rw [if_neg c11] at H
     exact absurd H (by simp)
end Go.Proofs.YtekmngghebpciaaGreat.PW
end
section
namespace Go.Proofs.YtekmngghebpciaaGreat.PW
open Go.RowKit Go.Proofs.YtekmngghebpciaaGreatW.PrintWords Go.Proofs.YtekmngghebpciaaGreatW.PrintLast Go.Proofs.YtekmngghebpciaaGreatW.PrintMore
attribute [local go_sem] max2_int min2_int max_two min_two max_three min_three max_four min_four
set_option linter.unusedVariables false
set_option linter.unusedSimpArgs false
def odds_game_each.f (k : Nat) (a0_0 : Int) (a0_1 : Int) : Option (List Int × Int) := (odds_game_bits.f k a0_0 a0_1).bind fun t220 => ((nat_Two.f t220).bind fun bt221 => (if bt221.2 = 0 then ((odds_game_lost.f k a0_0 a0_1).bind fun bt225 => (if bt225.2 = 0 then ((nat_Sub.f k bt221.1 bt225.1).bind fun bt229 => (if bt229.2 = 0 then ((nat_Div.f k bt229.1 a0_0).bind fun bt233 => (some (bt233.1, bt233.2.2))) else (some (([] : List Int), bt229.2)))) else (some (([] : List Int), bt225.2)))) else (some (([] : List Int), bt221.2))))
theorem odds_game_each.mono : ∀ a0 a1 k, LeO (odds_game_each.f k a0 a1) (odds_game_each.f (k + 1) a0 a1) := by
 intro a0 a1 k
 unfold odds_game_each.f
 repeat' first
   | (with_reducible exact nat_Div.mono _ _ _)
   | (with_reducible exact nat_Sub.mono _ _ _)
   | (with_reducible exact odds_game_bits.mono _ _ _)
   | (with_reducible exact odds_game_lost.mono _ _ _)
   | (with_reducible exact LeO.refl _)
   | (with_reducible exact LeO.none _)
   | (with_reducible refine LeO.ite ?_ ?_)
   | (with_reducible refine LeO.bind ?_ (fun _ => ?_))
   | exact nat_Div.mono _ _ _
   | exact nat_Sub.mono _ _ _
   | exact odds_game_bits.mono _ _ _
   | exact odds_game_lost.mono _ _ _
   | exact LeO.none _
   | refine LeO.ite ?_ ?_
   | refine LeO.bind ?_ (fun _ => ?_)
set_option maxHeartbeats 8000000 in
set_option maxRecDepth 100000 in
theorem odds_game_each.calls (k : Nat) (a0_0 : Int) (a0_1 : Int) (r1 : List Int) (r2 : Int) (w : World) (h : odds_game_each.f k a0_0 a0_1 = some (r1, r2)) :
  Calls Tryz.prog 105 #[.agg #[.int .u64 a0_0, .int .i64 a0_1]] w fun e w' => ∃ v0_ : Value, e = .returned (.tuple #[v0_, .int .i64 r2]) ∧ Kd.V (Kd.int .u32) 89 w' w.heap.size (fun k_ => (w.heap.size ≤ k_)) v0_ r1 ∧ Below w.heap.size w w' := by
 have hu105 := Tryz.underlying105
 have HB := Aside0.mk (Below.refl w.heap.size w)
 have H : ((odds_game_bits.f k a0_0 a0_1).bind fun t220 => ((nat_Two.f t220).bind fun bt221 => (if bt221.2 = 0 then ((odds_game_lost.f k a0_0 a0_1).bind fun bt225 => (if bt225.2 = 0 then ((nat_Sub.f k bt221.1 bt225.1).bind fun bt229 => (if bt229.2 = 0 then ((nat_Div.f k bt229.1 a0_0).bind fun bt233 => (some (bt233.1, bt233.2.2))) else (some (([] : List Int), bt229.2)))) else (some (([] : List Int), bt225.2)))) else (some (([] : List Int), bt221.2))))) = some (r1, r2) := h
 clear h
 replace H := Option.bind_eq_some_iff.mp H
 obtain ⟨t220, A20, H⟩ := H
 try dsimp only at H
 have A2 := Aside0.mk A20
 clear A20
 replace H := Option.bind_eq_some_iff.mp H
 obtain ⟨⟨t221, t222⟩, A30, H⟩ := H
 try dsimp only at H
 have A3 := Aside0.mk A30
 clear A30
 by_cases c4 : t222 = 0
 ·rw [if_pos c4] at H
  have c4b0 : (t222 == 0) = true := beq_iff_eq.mpr c4
  have c4b1 : (t222 != 0) = false := bne_eq_false_iff_eq.mpr c4
  clear c4
  replace H := Option.bind_eq_some_iff.mp H
  obtain ⟨⟨t225, t228⟩, A50, H⟩ := H
  try dsimp only at H
  have A5 := Aside0.mk A50
  clear A50
  by_cases c6 : t228 = 0
  ·rw [if_pos c6] at H
   have c6b0 : (t228 == 0) = true := beq_iff_eq.mpr c6
   have c6b1 : (t228 != 0) = false := bne_eq_false_iff_eq.mpr c6
   clear c6
   replace H := Option.bind_eq_some_iff.mp H
   obtain ⟨⟨t229, t232⟩, A70, H⟩ := H
   try dsimp only at H
   have A7 := Aside0.mk A70
   clear A70
   by_cases c8 : t232 = 0
   ·rw [if_pos c8] at H
    have c8b0 : (t232 == 0) = true := beq_iff_eq.mpr c8
    have c8b1 : (t232 != 0) = false := bne_eq_false_iff_eq.mpr c8
    clear c8
    replace H := Option.bind_eq_some_iff.mp H
    obtain ⟨⟨t233, t236, t237⟩, A90, H⟩ := H
    try dsimp only at H
    have A9 := Aside0.mk A90
    clear A90
    simp only [Option.some.injEq, Prod.mk.injEq] at H
    obtain ⟨rfl, rfl⟩ := H
    go_enter Tryz.func105, Tryz.ntmps105
    go_wp2_with (first | ((with_reducible refine qd 1 ?_); refine box_event ?hg (N := 1) ?hd (cs := #[.int .u64 a0_0, .int .i64 a0_1]) (t := 105) ?hr ?_; (case hd => rfl); (case hg => rfl); (case hr => first | (go_simp; done) | (go_simp; rfl)); intro gb219 hg w10 hbox hb; have BK219 := Aside0.mk (hbox); have GW219 := Aside0.mk (qe HB hg); have GE219 := Aside0.mk (qe HB hg); replace HB := Aside0.mk (below_step (qs HB) hb); clear hb hbox hg; have hcz11_0 : w10.cell? ⟨gb219, 0, none⟩ = some (.int .u64 a0_0) := (blk_cell BK219.out 0).trans rfl; have hcz11_1 : w10.cell? ⟨gb219, 1, none⟩ = some (.int .i64 a0_1) := (blk_cell BK219.out 1).trans rfl; have hfz11_0 := blk_frozen BK219.out 0; have hfz11_1 := blk_frozen BK219.out 1) | ((with_reducible refine gate_callee (f := 56) rfl ?_); refine goesL_ (some 12) rfl rfl Tryz.func56 (by kernel_rfl) rfl #[.agg #[.int .u64 a0_0, .int .i64 a0_1]] rfl ql ?_; (with_reducible refine (odds_game_bits.calls k a0_0 a0_1 t220 _ A2.out).mono ?_); rintro e w12 ⟨rfl, hb⟩; refine ⟨_, rfl, ?_⟩; replace BK219 := Aside0.mk (qB BK219 hb); replace HB := Aside0.mk (below_step (qs HB) hb); (try clear hb); (try clear hb2); (try clear hk); (try clear hi)) | ((with_reducible refine gate_callee (f := 87) rfl ?_); refine goesL_ (some 13) rfl rfl Tryz.func87 (by kernel_rfl) rfl #[.int .i64 t220] rfl ql ?_; (with_reducible refine (nat_Two.calls t220 t221 t222 _ A3.out).mono ?_); rintro e w13 ⟨v223, rfl, ho0, hb⟩; refine ⟨_, rfl, ?_⟩; have HO224 := Aside0.mk (Kd.R_lower (Kd.R_newM (M := fun k_ => (w.heap.size ≤ k_)) ho0 (below_size (qs HB)) (fun k_ h_ => h_)) (below_size (qs HB))); replace BK219 := Aside0.mk (qB BK219 hb); replace HB := Aside0.mk (below_step (qs HB) hb); (try clear hb); (try clear hb2); (try clear hk); (try clear hi); (try clear ho0); have hcz14_0 : w13.cell? ⟨gb219, 0, none⟩ = some (.int .u64 a0_0) := (blk_cell BK219.out 0).trans rfl; have hcz14_1 : w13.cell? ⟨gb219, 1, none⟩ = some (.int .i64 a0_1) := (blk_cell BK219.out 1).trans rfl; have hfz14_0 := blk_frozen BK219.out 0; have hfz14_1 := blk_frozen BK219.out 1) | ((with_reducible refine gate_callee (f := 61) rfl ?_); refine goesL_ (some 21) rfl rfl Tryz.func61 (by kernel_rfl) rfl #[.agg #[.int .u64 a0_0, .int .i64 a0_1]] rfl ql ?_; (with_reducible refine (odds_game_lost.calls k a0_0 a0_1 t225 t228 _ A5.out).mono ?_); rintro e w15 ⟨v226, rfl, ho0, hb⟩; refine ⟨_, rfl, ?_⟩; have HO227 := Aside0.mk (Kd.V_lower (Kd.V_mono (ok' := fun k_ => (w.heap.size ≤ k_) ∧ some k_ ≠ (v223 : Value).ownBlock ∧ k_ ≠ gb219) ho0 (fun k_ hk_ => ⟨(Nat.le_trans (below_size (qs HB)) hk_), (Kd.fresh' (Kd.R_lt (qr HO224)) k_ hk_), (Kd.freshB (g := gb219) (o := .cells #[.int .u64 a0_0, .int .i64 a0_1] 105 (0, 0)) (qb BK219) k_ hk_)⟩)) (below_size (qs HB))); replace HO224 := Aside0.mk (Kd.R_below (qr HO224) hb); replace BK219 := Aside0.mk (qB BK219 hb); replace HB := Aside0.mk (below_step (qs HB) hb); (try clear hb); (try clear hb2); (try clear hk); (try clear hi); (try clear ho0); obtain ⟨Ao16, co16, eo16⟩ := Kd.R_slice HO224.out; subst eo16; obtain ⟨Ao17, co17, eo17⟩ := Kd.V_slice HO227.out; subst eo17) | ((with_reducible refine gate_callee (f := 88) rfl ?_); refine goesL_ (some 30) rfl rfl Tryz.func88 (by kernel_rfl) rfl #[.slice Ao16 t221.length co16, .slice Ao17 t225.length co17] rfl ql ?_; (with_reducible refine (nat_Sub.calls k (fun k_ => some k_ = (.slice Ao16 t221.length co16 : Value).ownBlock) _ _ t221 (fun k_ => ((w.heap.size ≤ k_) ∧ (some k_ ≠ (.slice Ao16 t221.length co16 : Value).ownBlock ∧ k_ ≠ gb219))) _ _ t225 t229 t232 _ ?side1 ?side2 A7.out).mono ?_); (case side1 => exact Kd.R_V (Kd.R_tight rfl (Kd.R_types (HO224.out) BK219.out (by decide)))); (case side2 => exact HO227.out); rintro e w18 ⟨v230, rfl, ho0, hb⟩; refine ⟨_, rfl, ?_⟩; replace HO227 := Aside0.mk (Kd.V_below (qv HO227) hb); have HO231 := Aside0.mk (Kd.V_lower (Kd.V_mono (ok' := fun k_ => (w.heap.size ≤ k_) ∧ k_ ≠ gb219) ho0 (fun k_ hk_ => ⟨Or.elim hk_ (fun hs_ => Or.elim hs_ (fun hs_ => ((Kd.R_types (HO224.out) BK219.out (by decide)).1 k_ hs_.symm).1.1) (fun hs_ => hs_.1)) (fun hn_ => (Nat.le_trans (below_size (qs HB)) hn_)), Or.elim hk_ (fun hs_ => Or.elim hs_ (fun hs_ => ((Kd.R_types (HO224.out) BK219.out (by decide)).1 k_ hs_.symm).2) (fun hs_ => hs_.2.2)) (fun hn_ => (Kd.freshB (g := gb219) (o := .cells #[.int .u64 a0_0, .int .i64 a0_1] 105 (0, 0)) (qb BK219) k_ hn_))⟩)) (below_size (qs HB))); replace HO224 := Aside0.mk (Kd.R_below (qr HO224) hb); replace BK219 := Aside0.mk (qB BK219 hb); replace HB := Aside0.mk (below_step (qs HB) hb); (try clear hb); (try clear hb2); (try clear hk); (try clear hi); (try clear ho0); have hcz19_0 : w18.cell? ⟨gb219, 0, none⟩ = some (.int .u64 a0_0) := (blk_cell BK219.out 0).trans rfl; have hcz19_1 : w18.cell? ⟨gb219, 1, none⟩ = some (.int .i64 a0_1) := (blk_cell BK219.out 1).trans rfl; have hfz19_0 := blk_frozen BK219.out 0; have hfz19_1 := blk_frozen BK219.out 1; obtain ⟨Ao20, co20, eo20⟩ := Kd.V_slice HO231.out; subst eo20) | ((with_reducible refine gate_callee (f := 119) rfl ?_); refine goesL_ (some 40) rfl rfl Tryz.func119 (by kernel_rfl) rfl #[.slice Ao20 t229.length co20, .int .u64 a0_0] rfl ql ?_; (with_reducible refine (nat_Div.calls k _ _ t229 a0_0 t233 t236 t237 _ ?side1 ?side2 A9.out).mono ?_); (case side1 => repeat (first | exact (Kd.V_reads' HO231.out).2.2 | (with_reducible refine Kd.C_alloc ?_ _) | (with_reducible refine Kd.C_drewN ?_ _) | (with_reducible refine Kd.C_drew ?_))); (case side2 => exact (Kd.V_reads' HO231.out).2.1); rintro e w21 ⟨v234, rfl, ho0, hb⟩; refine ⟨_, rfl, ?_⟩; replace HO227 := Aside0.mk (Kd.V_below (qv HO227) hb); replace HO231 := Aside0.mk (Kd.V_below (qv HO231) hb); have HO235 := Aside0.mk (Kd.V_lower (Kd.V_mono (ok' := fun k_ => (w.heap.size ≤ k_) ∧ some k_ ≠ (.slice Ao16 t221.length co16 : Value).ownBlock ∧ k_ ≠ gb219) ho0 (fun k_ hk_ => ⟨(Nat.le_trans (below_size (qs HB)) hk_), (Kd.fresh' (Kd.R_lt (qr HO224)) k_ hk_), (Kd.freshB (g := gb219) (o := .cells #[.int .u64 a0_0, .int .i64 a0_1] 105 (0, 0)) (qb BK219) k_ hk_)⟩)) (below_size (qs HB))); replace HO224 := Aside0.mk (Kd.R_below (qr HO224) hb); replace BK219 := Aside0.mk (qB BK219 hb); replace HB := Aside0.mk (below_step (qs HB) hb); (try clear hb); (try clear hb2); (try clear hk); (try clear hi); (try clear ho0)))
    go_ret2
    exact ⟨_, by first | rfl | (simp [errW_none, errW_some] <;> rfl) | (simp [*, errW_none, errW_some] <;> rfl), by (with_reducible repeat (first | apply Kd.V_alloc | apply Kd.V_drewN | apply Kd.V_drew)); exact Kd.V_mono HO235.out (fun _ hk => hk.1), (qs HB)⟩
   ·rw [if_neg c8] at H
    have c8b0 : (t232 == 0) = false := beq_eq_false_iff_ne.mpr c8
    have c8b1 : (t232 != 0) = true := bne_iff_ne.mpr c8
    simp only [Option.some.injEq, Prod.mk.injEq] at H
    obtain ⟨rfl, rfl⟩ := H
    go_enter Tryz.func105, Tryz.ntmps105
    go_wp2_with (first | ((with_reducible refine qd 1 ?_); refine box_event ?hg (N := 1) ?hd (cs := #[.int .u64 a0_0, .int .i64 a0_1]) (t := 105) ?hr ?_; (case hd => rfl); (case hg => rfl); (case hr => first | (go_simp; done) | (go_simp; rfl)); intro gb219 hg w22 hbox hb; have BK219 := Aside0.mk (hbox); have GW219 := Aside0.mk (qe HB hg); have GE219 := Aside0.mk (qe HB hg); replace HB := Aside0.mk (below_step (qs HB) hb); clear hb hbox hg; have hcz23_0 : w22.cell? ⟨gb219, 0, none⟩ = some (.int .u64 a0_0) := (blk_cell BK219.out 0).trans rfl; have hcz23_1 : w22.cell? ⟨gb219, 1, none⟩ = some (.int .i64 a0_1) := (blk_cell BK219.out 1).trans rfl; have hfz23_0 := blk_frozen BK219.out 0; have hfz23_1 := blk_frozen BK219.out 1) | ((with_reducible refine gate_callee (f := 56) rfl ?_); refine goesL_ (some 12) rfl rfl Tryz.func56 (by kernel_rfl) rfl #[.agg #[.int .u64 a0_0, .int .i64 a0_1]] rfl ql ?_; (with_reducible refine (odds_game_bits.calls k a0_0 a0_1 t220 _ A2.out).mono ?_); rintro e w24 ⟨rfl, hb⟩; refine ⟨_, rfl, ?_⟩; replace BK219 := Aside0.mk (qB BK219 hb); replace HB := Aside0.mk (below_step (qs HB) hb); (try clear hb); (try clear hb2); (try clear hk); (try clear hi)) | ((with_reducible refine gate_callee (f := 87) rfl ?_); refine goesL_ (some 13) rfl rfl Tryz.func87 (by kernel_rfl) rfl #[.int .i64 t220] rfl ql ?_; (with_reducible refine (nat_Two.calls t220 t221 t222 _ A3.out).mono ?_); rintro e w25 ⟨v223, rfl, ho0, hb⟩; refine ⟨_, rfl, ?_⟩; have HO224 := Aside0.mk (Kd.R_lower (Kd.R_newM (M := fun k_ => (w.heap.size ≤ k_)) ho0 (below_size (qs HB)) (fun k_ h_ => h_)) (below_size (qs HB))); replace BK219 := Aside0.mk (qB BK219 hb); replace HB := Aside0.mk (below_step (qs HB) hb); (try clear hb); (try clear hb2); (try clear hk); (try clear hi); (try clear ho0); have hcz26_0 : w25.cell? ⟨gb219, 0, none⟩ = some (.int .u64 a0_0) := (blk_cell BK219.out 0).trans rfl; have hcz26_1 : w25.cell? ⟨gb219, 1, none⟩ = some (.int .i64 a0_1) := (blk_cell BK219.out 1).trans rfl; have hfz26_0 := blk_frozen BK219.out 0; have hfz26_1 := blk_frozen BK219.out 1) | ((with_reducible refine gate_callee (f := 61) rfl ?_); refine goesL_ (some 21) rfl rfl Tryz.func61 (by kernel_rfl) rfl #[.agg #[.int .u64 a0_0, .int .i64 a0_1]] rfl ql ?_; (with_reducible refine (odds_game_lost.calls k a0_0 a0_1 t225 t228 _ A5.out).mono ?_); rintro e w27 ⟨v226, rfl, ho0, hb⟩; refine ⟨_, rfl, ?_⟩; have HO227 := Aside0.mk (Kd.V_lower (Kd.V_mono (ok' := fun k_ => (w.heap.size ≤ k_) ∧ some k_ ≠ (v223 : Value).ownBlock ∧ k_ ≠ gb219) ho0 (fun k_ hk_ => ⟨(Nat.le_trans (below_size (qs HB)) hk_), (Kd.fresh' (Kd.R_lt (qr HO224)) k_ hk_), (Kd.freshB (g := gb219) (o := .cells #[.int .u64 a0_0, .int .i64 a0_1] 105 (0, 0)) (qb BK219) k_ hk_)⟩)) (below_size (qs HB))); replace HO224 := Aside0.mk (Kd.R_below (qr HO224) hb); replace BK219 := Aside0.mk (qB BK219 hb); replace HB := Aside0.mk (below_step (qs HB) hb); (try clear hb); (try clear hb2); (try clear hk); (try clear hi); (try clear ho0); obtain ⟨Ao28, co28, eo28⟩ := Kd.R_slice HO224.out; subst eo28; obtain ⟨Ao29, co29, eo29⟩ := Kd.V_slice HO227.out; subst eo29) | ((with_reducible refine gate_callee (f := 88) rfl ?_); refine goesL_ (some 30) rfl rfl Tryz.func88 (by kernel_rfl) rfl #[.slice Ao28 t221.length co28, .slice Ao29 t225.length co29] rfl ql ?_; (with_reducible refine (nat_Sub.calls k (fun k_ => some k_ = (.slice Ao28 t221.length co28 : Value).ownBlock) _ _ t221 (fun k_ => ((w.heap.size ≤ k_) ∧ (some k_ ≠ (.slice Ao28 t221.length co28 : Value).ownBlock ∧ k_ ≠ gb219))) _ _ t225 t229 t232 _ ?side1 ?side2 A7.out).mono ?_); (case side1 => exact Kd.R_V (Kd.R_tight rfl (Kd.R_types (HO224.out) BK219.out (by decide)))); (case side2 => exact HO227.out); rintro e w30 ⟨v230, rfl, ho0, hb⟩; refine ⟨_, rfl, ?_⟩; replace HO227 := Aside0.mk (Kd.V_below (qv HO227) hb); have HO231 := Aside0.mk (Kd.V_lower (Kd.V_mono (ok' := fun k_ => (w.heap.size ≤ k_) ∧ k_ ≠ gb219) ho0 (fun k_ hk_ => ⟨Or.elim hk_ (fun hs_ => Or.elim hs_ (fun hs_ => ((Kd.R_types (HO224.out) BK219.out (by decide)).1 k_ hs_.symm).1.1) (fun hs_ => hs_.1)) (fun hn_ => (Nat.le_trans (below_size (qs HB)) hn_)), Or.elim hk_ (fun hs_ => Or.elim hs_ (fun hs_ => ((Kd.R_types (HO224.out) BK219.out (by decide)).1 k_ hs_.symm).2) (fun hs_ => hs_.2.2)) (fun hn_ => (Kd.freshB (g := gb219) (o := .cells #[.int .u64 a0_0, .int .i64 a0_1] 105 (0, 0)) (qb BK219) k_ hn_))⟩)) (below_size (qs HB))); replace HO224 := Aside0.mk (Kd.R_below (qr HO224) hb); replace BK219 := Aside0.mk (qB BK219 hb); replace HB := Aside0.mk (below_step (qs HB) hb); (try clear hb); (try clear hb2); (try clear hk); (try clear hi); (try clear ho0)))
    go_ret2
    exact ⟨_, by first | rfl | (simp [errW_none, errW_some] <;> rfl) | (simp [*, errW_none, errW_some] <;> rfl), Kd.V_nil _ _ _ _ _, (qs HB)⟩
  ·rw [if_neg c6] at H
   have c6b0 : (t228 == 0) = false := beq_eq_false_iff_ne.mpr c6
   have c6b1 : (t228 != 0) = true := bne_iff_ne.mpr c6
   simp only [Option.some.injEq, Prod.mk.injEq] at H
   obtain ⟨rfl, rfl⟩ := H
   go_enter Tryz.func105, Tryz.ntmps105
   go_wp2_with (first | ((with_reducible refine qd 1 ?_); refine box_event ?hg (N := 1) ?hd (cs := #[.int .u64 a0_0, .int .i64 a0_1]) (t := 105) ?hr ?_; (case hd => rfl); (case hg => rfl); (case hr => first | (go_simp; done) | (go_simp; rfl)); intro gb219 hg w31 hbox hb; have BK219 := Aside0.mk (hbox); have GW219 := Aside0.mk (qe HB hg); have GE219 := Aside0.mk (qe HB hg); replace HB := Aside0.mk (below_step (qs HB) hb); clear hb hbox hg; have hcz32_0 : w31.cell? ⟨gb219, 0, none⟩ = some (.int .u64 a0_0) := (blk_cell BK219.out 0).trans rfl; have hcz32_1 : w31.cell? ⟨gb219, 1, none⟩ = some (.int .i64 a0_1) := (blk_cell BK219.out 1).trans rfl; have hfz32_0 := blk_frozen BK219.out 0; have hfz32_1 := blk_frozen BK219.out 1) | ((with_reducible refine gate_callee (f := 56) rfl ?_); refine goesL_ (some 12) rfl rfl Tryz.func56 (by kernel_rfl) rfl #[.agg #[.int .u64 a0_0, .int .i64 a0_1]] rfl ql ?_; (with_reducible refine (odds_game_bits.calls k a0_0 a0_1 t220 _ A2.out).mono ?_); rintro e w33 ⟨rfl, hb⟩; refine ⟨_, rfl, ?_⟩; replace BK219 := Aside0.mk (qB BK219 hb); replace HB := Aside0.mk (below_step (qs HB) hb); (try clear hb); (try clear hb2); (try clear hk); (try clear hi)) | ((with_reducible refine gate_callee (f := 87) rfl ?_); refine goesL_ (some 13) rfl rfl Tryz.func87 (by kernel_rfl) rfl #[.int .i64 t220] rfl ql ?_; (with_reducible refine (nat_Two.calls t220 t221 t222 _ A3.out).mono ?_); rintro e w34 ⟨v223, rfl, ho0, hb⟩; refine ⟨_, rfl, ?_⟩; have HO224 := Aside0.mk (Kd.R_lower (Kd.R_newM (M := fun k_ => (w.heap.size ≤ k_)) ho0 (below_size (qs HB)) (fun k_ h_ => h_)) (below_size (qs HB))); replace BK219 := Aside0.mk (qB BK219 hb); replace HB := Aside0.mk (below_step (qs HB) hb); (try clear hb); (try clear hb2); (try clear hk); (try clear hi); (try clear ho0); have hcz35_0 : w34.cell? ⟨gb219, 0, none⟩ = some (.int .u64 a0_0) := (blk_cell BK219.out 0).trans rfl; have hcz35_1 : w34.cell? ⟨gb219, 1, none⟩ = some (.int .i64 a0_1) := (blk_cell BK219.out 1).trans rfl; have hfz35_0 := blk_frozen BK219.out 0; have hfz35_1 := blk_frozen BK219.out 1) | ((with_reducible refine gate_callee (f := 61) rfl ?_); refine goesL_ (some 21) rfl rfl Tryz.func61 (by kernel_rfl) rfl #[.agg #[.int .u64 a0_0, .int .i64 a0_1]] rfl ql ?_; (with_reducible refine (odds_game_lost.calls k a0_0 a0_1 t225 t228 _ A5.out).mono ?_); rintro e w36 ⟨v226, rfl, ho0, hb⟩; refine ⟨_, rfl, ?_⟩; have HO227 := Aside0.mk (Kd.V_lower (Kd.V_mono (ok' := fun k_ => (w.heap.size ≤ k_) ∧ some k_ ≠ (v223 : Value).ownBlock ∧ k_ ≠ gb219) ho0 (fun k_ hk_ => ⟨(Nat.le_trans (below_size (qs HB)) hk_), (Kd.fresh' (Kd.R_lt (qr HO224)) k_ hk_), (Kd.freshB (g := gb219) (o := .cells #[.int .u64 a0_0, .int .i64 a0_1] 105 (0, 0)) (qb BK219) k_ hk_)⟩)) (below_size (qs HB))); replace HO224 := Aside0.mk (Kd.R_below (qr HO224) hb); replace BK219 := Aside0.mk (qB BK219 hb); replace HB := Aside0.mk (below_step (qs HB) hb); (try clear hb); (try clear hb2); (try clear hk); (try clear hi); (try clear ho0)))
   go_ret2
   exact ⟨_, by first | rfl | (simp [errW_none, errW_some] <;> rfl) | (simp [*, errW_none, errW_some] <;> rfl), Kd.V_nil _ _ _ _ _, (qs HB)⟩
 ·rw [if_neg c4] at H
  have c4b0 : (t222 == 0) = false := beq_eq_false_iff_ne.mpr c4
  have c4b1 : (t222 != 0) = true := bne_iff_ne.mpr c4
  simp only [Option.some.injEq, Prod.mk.injEq] at H
  obtain ⟨rfl, rfl⟩ := H
  go_enter Tryz.func105, Tryz.ntmps105
  go_wp2_with (first | ((with_reducible refine qd 1 ?_); refine box_event ?hg (N := 1) ?hd (cs := #[.int .u64 a0_0, .int .i64 a0_1]) (t := 105) ?hr ?_; (case hd => rfl); (case hg => rfl); (case hr => first | (go_simp; done) | (go_simp; rfl)); intro gb219 hg w37 hbox hb; have BK219 := Aside0.mk (hbox); have GW219 := Aside0.mk (qe HB hg); have GE219 := Aside0.mk (qe HB hg); replace HB := Aside0.mk (below_step (qs HB) hb); clear hb hbox hg; have hcz38_0 : w37.cell? ⟨gb219, 0, none⟩ = some (.int .u64 a0_0) := (blk_cell BK219.out 0).trans rfl; have hcz38_1 : w37.cell? ⟨gb219, 1, none⟩ = some (.int .i64 a0_1) := (blk_cell BK219.out 1).trans rfl; have hfz38_0 := blk_frozen BK219.out 0; have hfz38_1 := blk_frozen BK219.out 1) | ((with_reducible refine gate_callee (f := 56) rfl ?_); refine goesL_ (some 12) rfl rfl Tryz.func56 (by kernel_rfl) rfl #[.agg #[.int .u64 a0_0, .int .i64 a0_1]] rfl ql ?_; (with_reducible refine (odds_game_bits.calls k a0_0 a0_1 t220 _ A2.out).mono ?_); rintro e w39 ⟨rfl, hb⟩; refine ⟨_, rfl, ?_⟩; replace BK219 := Aside0.mk (qB BK219 hb); replace HB := Aside0.mk (below_step (qs HB) hb); (try clear hb); (try clear hb2); (try clear hk); (try clear hi)) | ((with_reducible refine gate_callee (f := 87) rfl ?_); refine goesL_ (some 13) rfl rfl Tryz.func87 (by kernel_rfl) rfl #[.int .i64 t220] rfl ql ?_; (with_reducible refine (nat_Two.calls t220 t221 t222 _ A3.out).mono ?_); rintro e w40 ⟨v223, rfl, ho0, hb⟩; refine ⟨_, rfl, ?_⟩; have HO224 := Aside0.mk (Kd.R_lower (Kd.R_newM (M := fun k_ => (w.heap.size ≤ k_)) ho0 (below_size (qs HB)) (fun k_ h_ => h_)) (below_size (qs HB))); replace BK219 := Aside0.mk (qB BK219 hb); replace HB := Aside0.mk (below_step (qs HB) hb); (try clear hb); (try clear hb2); (try clear hk); (try clear hi); (try clear ho0)))
  go_ret2
  exact ⟨_, by first | rfl | (simp [errW_none, errW_some] <;> rfl) | (simp [*, errW_none, errW_some] <;> rfl), Kd.V_nil _ _ _ _ _, (qs HB)⟩
def odds_game_share.f (k : Nat) (a0_0 : Int) (a0_1 : Int) (a1 : Int) : Option (List Int × Int) := (odds_game_each.f k a0_0 a0_1).bind fun bt239 => (if bt239.2 = 0 then ((nat_Of.f k a1).bind fun t243 => ((nat_Mul.f k (([t243, bt239.1] : List (List Int)))).bind fun bt249 => (some (bt249.1, bt249.2)))) else (some (([] : List Int), bt239.2)))
theorem odds_game_share.mono : ∀ a0 a1 a2 k, LeO (odds_game_share.f k a0 a1 a2) (odds_game_share.f (k + 1) a0 a1 a2) := by
 intro a0 a1 a2 k
 unfold odds_game_share.f
 repeat' first
   | (with_reducible exact nat_Mul.mono _ _)
   | (with_reducible exact nat_Of.mono _ _)
   | (with_reducible exact odds_game_each.mono _ _ _)
   | (with_reducible exact LeO.refl _)
   | (with_reducible exact LeO.none _)
   | (with_reducible refine LeO.ite ?_ ?_)
   | (with_reducible refine LeO.bind ?_ (fun _ => ?_))
   | exact nat_Mul.mono _ _
   | exact nat_Of.mono _ _
   | exact odds_game_each.mono _ _ _
   | exact LeO.none _
   | refine LeO.ite ?_ ?_
   | refine LeO.bind ?_ (fun _ => ?_)
set_option maxHeartbeats 8000000 in
set_option maxRecDepth 100000 in
theorem odds_game_share.calls (k : Nat) (a0_0 : Int) (a0_1 : Int) (a1 : Int) (r1 : List Int) (r2 : Int) (w : World) (h : odds_game_share.f k a0_0 a0_1 a1 = some (r1, r2)) :
  Calls Tryz.prog 83 #[.agg #[.int .u64 a0_0, .int .i64 a0_1], .int .u64 a1] w fun e w' => ∃ v0_ : Value, e = .returned (.tuple #[v0_, .int .i64 r2]) ∧ Kd.V (Kd.int .u32) 89 w' w.heap.size (fun k_ => (w.heap.size ≤ k_)) v0_ r1 ∧ Below w.heap.size w w' := by
 have hu105 := Tryz.underlying105
 have HB := Aside0.mk (Below.refl w.heap.size w)
 have H : ((odds_game_each.f k a0_0 a0_1).bind fun bt239 => (if bt239.2 = 0 then ((nat_Of.f k a1).bind fun t243 => ((nat_Mul.f k (([t243, bt239.1] : List (List Int)))).bind fun bt249 => (some (bt249.1, bt249.2)))) else (some (([] : List Int), bt239.2)))) = some (r1, r2) := h
 clear h
 replace H := Option.bind_eq_some_iff.mp H
 obtain ⟨⟨t239, t242⟩, A30, H⟩ := H
 try dsimp only at H
 have A3 := Aside0.mk A30
 clear A30
 by_cases c4 : t242 = 0
 ·rw [if_pos c4] at H
  have c4b0 : (t242 == 0) = true := beq_iff_eq.mpr c4
  have c4b1 : (t242 != 0) = false := bne_eq_false_iff_eq.mpr c4
  clear c4
  replace H := Option.bind_eq_some_iff.mp H
  obtain ⟨t243, A50, H⟩ := H
  try dsimp only at H
  have A5 := Aside0.mk A50
  clear A50
  obtain ⟨y246, hy246⟩ : ∃ y_ : List (List Int), y_ = (([t243, t239] : List (List Int))) := ⟨_, rfl⟩
  replace H : ((nat_Mul.f k y246).bind fun bt249 => (some (bt249.1, bt249.2))) = some (r1, r2) := by first | (rw [hy246]; with_reducible exact H) | (have H2_ := (Option.bind_some _ _).symm.trans H; rw [hy246]; with_reducible exact H2_) | (have H2_ := (Option.bind_some _ _).symm.trans H; with_reducible exact H2_) | with_reducible exact H | (rw [hy246]; exact H) | exact H
  have Ny246 := Aside0.mk hy246
  clear hy246
  replace H := Option.bind_eq_some_iff.mp H
  obtain ⟨⟨t249, t252⟩, A60, H⟩ := H
  try dsimp only at H
  have A6 := Aside0.mk A60
  clear A60
  simp only [Option.some.injEq, Prod.mk.injEq] at H
  obtain ⟨rfl, rfl⟩ := H
  go_enter Tryz.func83, Tryz.ntmps83
  go_wp2_with (first | ((with_reducible refine qd 2 ?_); refine box_event ?hg (N := 2) ?hd (cs := #[.int .u64 a0_0, .int .i64 a0_1]) (t := 105) ?hr ?_; (case hd => rfl); (case hg => rfl); (case hr => first | (go_simp; done) | (go_simp; rfl)); intro gb238 hg w7 hbox hb; have BK238 := Aside0.mk (hbox); have GW238 := Aside0.mk (qe HB hg); have GE238 := Aside0.mk (qe HB hg); replace HB := Aside0.mk (below_step (qs HB) hb); clear hb hbox hg; have hcz8_0 : w7.cell? ⟨gb238, 0, none⟩ = some (.int .u64 a0_0) := (blk_cell BK238.out 0).trans rfl; have hcz8_1 : w7.cell? ⟨gb238, 1, none⟩ = some (.int .i64 a0_1) := (blk_cell BK238.out 1).trans rfl; have hfz8_0 := blk_frozen BK238.out 0; have hfz8_1 := blk_frozen BK238.out 1) | ((with_reducible refine gate_callee (f := 105) rfl ?_); refine goesL_ (some 10) rfl rfl Tryz.func105 (by kernel_rfl) rfl #[.agg #[.int .u64 a0_0, .int .i64 a0_1]] rfl ql ?_; (with_reducible refine (odds_game_each.calls k a0_0 a0_1 t239 t242 _ A3.out).mono ?_); rintro e w9 ⟨v240, rfl, ho0, hb⟩; refine ⟨_, rfl, ?_⟩; have HO241 := Aside0.mk (Kd.V_lower (Kd.V_mono (ok' := fun k_ => (w.heap.size ≤ k_) ∧ k_ ≠ gb238) ho0 (fun k_ hk_ => ⟨(Nat.le_trans (below_size (qs HB)) hk_), (Kd.freshB (g := gb238) (o := .cells #[.int .u64 a0_0, .int .i64 a0_1] 105 (0, 0)) (qb BK238) k_ hk_)⟩)) (below_size (qs HB))); replace BK238 := Aside0.mk (qB BK238 hb); replace HB := Aside0.mk (below_step (qs HB) hb); (try clear hb); (try clear hb2); (try clear hk); (try clear hi); (try clear ho0)) | ((with_reducible refine gate_callee (f := 89) rfl ?_); refine goesL_ (some 17) rfl rfl Tryz.func89 (by kernel_rfl) rfl #[.int .u64 a1] rfl ql ?_; (with_reducible refine (nat_Of.calls k a1 t243 _ A5.out).mono ?_); rintro e w10 ⟨v244, rfl, ho0, hb⟩; refine ⟨_, rfl, ?_⟩; replace HO241 := Aside0.mk (Kd.V_below (qv HO241) hb); have HO245 := Aside0.mk (Kd.V_lower (Kd.V_mono (ok' := fun k_ => (w.heap.size ≤ k_) ∧ k_ ≠ gb238) ho0 (fun k_ hk_ => ⟨(Nat.le_trans (below_size (qs HB)) hk_), (Kd.freshB (g := gb238) (o := .cells #[.int .u64 a0_0, .int .i64 a0_1] 105 (0, 0)) (qb BK238) k_ hk_)⟩)) (below_size (qs HB))); replace BK238 := Aside0.mk (qB BK238 hb); replace HB := Aside0.mk (below_step (qs HB) hb); (try clear hb); (try clear hb2); (try clear hk); (try clear hi); (try clear ho0); obtain ⟨Ao11, co11, eo11⟩ := Kd.V_slice HO245.out; subst eo11; obtain ⟨Ao12, co12, eo12⟩ := Kd.V_slice HO241.out; subst eo12) | ((with_reducible refine qd 19 ?_); refine Kd.N_lit (Kd.slice 89 (Kd.int .u32)) _ 44 ?hg (N' := 19) ?hd (xs := ([t243, t239] : List (List Int))) (inner := [.slice Ao11 t243.length co11, .slice Ao12 t239.length co12]) (ok := (fun k_ => (w.heap.size ≤ k_) ∧ k_ ≠ gb238)) (okp := (fun k_ => (w.heap.size ≤ k_) ∧ k_ ≠ gb238)) ?hr ?hp (fun _ hk => hk) ((show ∀ k_, w10.heap.size ≤ k_ → (fun k_ => (w.heap.size ≤ k_) ∧ k_ ≠ gb238) k_ from fun k_ hk => ⟨(Nat.le_trans (below_size (qs HB)) hk), Kd.freshB (g := gb238) (o := .cells #[.int .u64 a0_0, .int .i64 a0_1] 105 (0, 0)) (qb BK238) k_ hk⟩) _ (Nat.le_refl _)) (Below.refl _ _) (Nat.le_refl _) (by simp) ?_; (case hd => rfl); (case hg => rfl); (case hr => first | (go_simp; done) | (go_simp; rfl)); (case hp => exact (Reps.one ((Kd.FK_slice_mk (Kd.V_reads' (Kd.V_mono (ok' := (fun k_ => (w.heap.size ≤ k_) ∧ k_ ≠ gb238)) (HO245.out) (fun k_ hk => ⟨hk.1, hk.2⟩))).2.1 (Kd.V_F (e := 89) (base := w.heap.size) (Kd.V_mono (ok := (fun k_ => ((w.heap.size ≤ k_) ∧ k_ ≠ gb238))) (ok' := (fun k_ => (w.heap.size ≤ k_) ∧ k_ ≠ gb238)) (by repeat (first | exact HO245.out | apply Kd.V_drewN | apply Kd.V_alloc | apply Kd.V_drew)) (fun k_ hk => ⟨hk.1, hk.2⟩)))) : Kd.FK (Kd.slice 89 (Kd.int .u32)) _ _ t243 [.slice Ao11 t243.length co11]) (Reps.one ((Kd.FK_slice_mk (Kd.V_reads' (Kd.V_mono (ok' := (fun k_ => (w.heap.size ≤ k_) ∧ k_ ≠ gb238)) (HO241.out) (fun k_ hk => ⟨hk.1, hk.2⟩))).2.1 (Kd.V_F (e := 89) (base := w.heap.size) (Kd.V_mono (ok := (fun k_ => ((w.heap.size ≤ k_) ∧ k_ ≠ gb238))) (ok' := (fun k_ => (w.heap.size ≤ k_) ∧ k_ ≠ gb238)) (by repeat (first | exact HO241.out | apply Kd.V_drewN | apply Kd.V_alloc | apply Kd.V_drew)) (fun k_ hk => ⟨hk.1, hk.2⟩)))) : Kd.FK (Kd.slice 89 (Kd.int .u32)) _ _ t239 [.slice Ao12 t239.length co12]) (Reps.none _ _)))); intro v247 w13 ho14 hb hg_ hnew_; clear hg_ hnew_; (first | rw [← Ny246.out] at ho14 | (simp only [Int.reduceToNat] at ho14; rw [← Ny246.out] at ho14)); replace HO241 := Aside0.mk (Kd.V_elder' (qv HO241) (Kd.N_base ho14) hb); replace HO245 := Aside0.mk (Kd.V_elder' (qv HO245) (Kd.N_base ho14) hb); have HO248 := Aside0.mk (Kd.N_lower ho14 (below_size (qs HB))); replace BK238 := Aside0.mk (qB BK238 hb); replace HB := Aside0.mk (below_step (qs HB) hb); clear hb ho14; obtain ⟨Ao15, co15, eo15⟩ := Kd.N_slice HO248.out; subst eo15) | ((with_reducible refine gate_callee (f := 101) rfl ?_); refine goesL_ (some 20) rfl rfl Tryz.func101 (by kernel_rfl) rfl #[.slice Ao15 y246.length co15] rfl ql ?_; (with_reducible refine (nat_Mul.calls k _ _ y246 t249 t252 _ ?side1 ?side2 A6.out).mono ?_); (case side1 => repeat (first | exact (Kd.N_reads' HO248.out).2.2 | (with_reducible refine Kd.C_alloc ?_ _) | (with_reducible refine Kd.C_drewN ?_ _) | (with_reducible refine Kd.C_drew ?_))); (case side2 => exact (Kd.N_reads' HO248.out).2.1); rintro e w16 ⟨v250, rfl, ho0, hb⟩; refine ⟨_, rfl, ?_⟩; replace HO241 := Aside0.mk (Kd.V_below (qv HO241) hb); replace HO245 := Aside0.mk (Kd.V_below (qv HO245) hb); have HO251 := Aside0.mk (Kd.V_lower (Kd.V_mono (ok' := fun k_ => (w.heap.size ≤ k_) ∧ some k_ ≠ (.slice Ao15 y246.length co15 : Value).ownBlock ∧ k_ ≠ gb238) ho0 (fun k_ hk_ => ⟨(Nat.le_trans (below_size (qs HB)) hk_), (Kd.fresh' (Kd.N_lt (qn HO248)) k_ hk_), (Kd.freshB (g := gb238) (o := .cells #[.int .u64 a0_0, .int .i64 a0_1] 105 (0, 0)) (qb BK238) k_ hk_)⟩)) (below_size (qs HB))); replace HO248 := Aside0.mk (Kd.N_below (qn HO248) hb); replace BK238 := Aside0.mk (qB BK238 hb); replace HB := Aside0.mk (below_step (qs HB) hb); (try clear hb); (try clear hb2); (try clear hk); (try clear hi); (try clear ho0)))
  go_ret2
  exact ⟨_, by first | rfl | (simp [errW_none, errW_some] <;> rfl) | (simp [*, errW_none, errW_some] <;> rfl), by (with_reducible repeat (first | apply Kd.V_alloc | apply Kd.V_drewN | apply Kd.V_drew)); exact Kd.V_mono HO251.out (fun _ hk => hk.1), (qs HB)⟩
 ·rw [if_neg c4] at H
  have c4b0 : (t242 == 0) = false := beq_eq_false_iff_ne.mpr c4
  have c4b1 : (t242 != 0) = true := bne_iff_ne.mpr c4
  simp only [Option.some.injEq, Prod.mk.injEq] at H
  obtain ⟨rfl, rfl⟩ := H
  go_enter Tryz.func83, Tryz.ntmps83
  go_wp2_with (first | ((with_reducible refine qd 2 ?_); refine box_event ?hg (N := 2) ?hd (cs := #[.int .u64 a0_0, .int .i64 a0_1]) (t := 105) ?hr ?_; (case hd => rfl); (case hg => rfl); (case hr => first | (go_simp; done) | (go_simp; rfl)); intro gb238 hg w17 hbox hb; have BK238 := Aside0.mk (hbox); have GW238 := Aside0.mk (qe HB hg); have GE238 := Aside0.mk (qe HB hg); replace HB := Aside0.mk (below_step (qs HB) hb); clear hb hbox hg; have hcz18_0 : w17.cell? ⟨gb238, 0, none⟩ = some (.int .u64 a0_0) := (blk_cell BK238.out 0).trans rfl; have hcz18_1 : w17.cell? ⟨gb238, 1, none⟩ = some (.int .i64 a0_1) := (blk_cell BK238.out 1).trans rfl; have hfz18_0 := blk_frozen BK238.out 0; have hfz18_1 := blk_frozen BK238.out 1) | ((with_reducible refine gate_callee (f := 105) rfl ?_); refine goesL_ (some 10) rfl rfl Tryz.func105 (by kernel_rfl) rfl #[.agg #[.int .u64 a0_0, .int .i64 a0_1]] rfl ql ?_; (with_reducible refine (odds_game_each.calls k a0_0 a0_1 t239 t242 _ A3.out).mono ?_); rintro e w19 ⟨v240, rfl, ho0, hb⟩; refine ⟨_, rfl, ?_⟩; have HO241 := Aside0.mk (Kd.V_lower (Kd.V_mono (ok' := fun k_ => (w.heap.size ≤ k_) ∧ k_ ≠ gb238) ho0 (fun k_ hk_ => ⟨(Nat.le_trans (below_size (qs HB)) hk_), (Kd.freshB (g := gb238) (o := .cells #[.int .u64 a0_0, .int .i64 a0_1] 105 (0, 0)) (qb BK238) k_ hk_)⟩)) (below_size (qs HB))); replace BK238 := Aside0.mk (qB BK238 hb); replace HB := Aside0.mk (below_step (qs HB) hb); (try clear hb); (try clear hb2); (try clear hk); (try clear hi); (try clear ho0)))
  go_ret2
  exact ⟨_, by first | rfl | (simp [errW_none, errW_some] <;> rfl) | (simp [*, errW_none, errW_some] <;> rfl), Kd.V_nil _ _ _ _ _, (qs HB)⟩
def odds_stake.f (k : Nat) (a0 : Int) (a1 : Int) (a2 : Int) (l3 : List Int) : Option (List Int × Int) := (odds_game_may.f 1 a1).bind fun t253 => (if t253 = true then ((odds_sum.f k a0 a2 l3).bind fun bt254 => (if bt254.2 = 0 then (if 0 ≤ a0 then (if a0 < (l3.length : Int) then ((odds_game_share.f k bt254.1 a1 (IntKind.u64.wrap (a2 * (rd l3 a0)))).bind fun bt257 => (some (bt257.1, bt257.2))) else (none)) else (none)) else (none))) else (none))
theorem odds_stake.mono : ∀ a0 a1 a2 a3 k, LeO (odds_stake.f k a0 a1 a2 a3) (odds_stake.f (k + 1) a0 a1 a2 a3) := by
 intro a0 a1 a2 a3 k
 unfold odds_stake.f
 repeat' first
   | (with_reducible exact odds_game_share.mono _ _ _ _)
   | (with_reducible exact odds_sum.mono _ _ _ _)
   | (with_reducible exact LeO.refl _)
   | (with_reducible exact LeO.none _)
   | (with_reducible refine LeO.ite ?_ ?_)
   | (with_reducible refine LeO.bind ?_ (fun _ => ?_))
   | exact odds_game_share.mono _ _ _ _
   | exact odds_sum.mono _ _ _ _
   | exact LeO.none _
   | refine LeO.ite ?_ ?_
   | refine LeO.bind ?_ (fun _ => ?_)
set_option maxHeartbeats 8000000 in
set_option maxRecDepth 100000 in
theorem odds_stake.calls (k : Nat) (a0 : Int) (a1 : Int) (a2 : Int) (A3 : Option Addr) (c3 : Nat) (l3 : List Int) (r1 : List Int) (r2 : Int) (w : World) (hr3 : Kd.C (Kd.int .u64) w A3 l3.length l3) (hc3 : l3.length ≤ c3) (h : odds_stake.f k a0 a1 a2 l3 = some (r1, r2)) :
  Calls Tryz.prog 52 #[.int .i64 a0, .int .i64 a1, .int .u64 a2, .slice A3 l3.length c3] w fun e w' => ∃ v0_ : Value, e = .returned (.tuple #[v0_, .int .i64 r2]) ∧ Kd.V (Kd.int .u32) 89 w' w.heap.size (fun k_ => (w.heap.size ≤ k_)) v0_ r1 ∧ Below w.heap.size w w' := by
 have hu105 := Tryz.underlying105
 have HR3 := Aside0.mk hr3
 have HC3 := Aside0.mk hc3
 clear hr3 hc3
 have HB := Aside0.mk (Below.refl w.heap.size w)
 have H : ((odds_game_may.f 1 a1).bind fun t253 => (if t253 = true then ((odds_sum.f k a0 a2 l3).bind fun bt254 => (if bt254.2 = 0 then (if 0 ≤ a0 then (if a0 < (l3.length : Int) then ((odds_game_share.f k bt254.1 a1 (IntKind.u64.wrap (a2 * (rd l3 a0)))).bind fun bt257 => (some (bt257.1, bt257.2))) else (none)) else (none)) else (none))) else (none))) = some (r1, r2) := h
 clear h
 replace H := Option.bind_eq_some_iff.mp H
 obtain ⟨t253, A50, H⟩ := H
 try dsimp only at H
 have A5 := Aside0.mk A50
 clear A50
 by_cases c6 : t253 = true
 ·subst c6
  have H1 : ((odds_sum.f k a0 a2 l3).bind fun bt254 => (if bt254.2 = 0 then (if 0 ≤ a0 then (if a0 < (l3.length : Int) then ((odds_game_share.f k bt254.1 a1 (IntKind.u64.wrap (a2 * (rd l3 a0)))).bind fun bt257 => (some (bt257.1, bt257.2))) else (none)) else (none)) else (none))) = some (r1, r2) := by rw [if_pos rfl] at H; exact H
  clear H
  have H := H1
  clear H1
  replace H := Option.bind_eq_some_iff.mp H
  obtain ⟨⟨t254, t255⟩, A70, H⟩ := H
  try dsimp only at H
  have A7 := Aside0.mk A70
  clear A70
  by_cases c8 : t255 = 0
  ·rw [if_pos c8] at H
   have c8b0 : (t255 == 0) = true := beq_iff_eq.mpr c8
   have c8b1 : (t255 != 0) = false := bne_eq_false_iff_eq.mpr c8
   clear c8
   by_cases c9 : 0 ≤ a0
   ·rw [if_pos c9] at H
    have c9b0 : decide (0 ≤ a0) = true := decide_eq_true c9
    clear c9
    by_cases c10 : a0 < (l3.length : Int)
    ·rw [if_pos c10] at H
     have c10b0 : decide (a0 < (l3.length : Int)) = true := decide_eq_true c10
     clear c10
     replace H := Option.bind_eq_some_iff.mp H
     obtain ⟨⟨t257, t260⟩, A110, H⟩ := H
     try dsimp only at H
     have A11 := Aside0.mk A110
     clear A110
     simp only [Option.some.injEq, Prod.mk.injEq] at H
     obtain ⟨rfl, rfl⟩ := H
     go_enter Tryz.func52, Tryz.ntmps52
     go_wp2_with (first | ((with_reducible refine gate_callee (f := 55) rfl ?_); refine goesL_ (some 14) rfl rfl Tryz.func55 (by kernel_rfl) rfl #[.agg #[.int .u64 1, .int .i64 a1]] rfl ql ?_; (with_reducible refine (odds_game_may.calls 1 a1 true _ A5.out).mono ?_); rintro e w12 ⟨rfl, hb⟩; refine ⟨_, rfl, ?_⟩; replace HB := Aside0.mk (below_step (qs HB) hb); (try clear hb); (try clear hb2); (try clear hk); (try clear hi)) | ((with_reducible refine gate_callee (f := 82) rfl ?_); refine goesL_ (some 20) rfl rfl Tryz.func82 (by kernel_rfl) rfl #[.int .i64 a0, .int .u64 a2, .slice A3 l3.length c3] rfl ql ?_; (with_reducible refine (odds_sum.calls k a0 a2 _ _ l3 t254 t255 _ ?side1 ?side2 A7.out).mono ?_); (case side1 => repeat (first | exact (Kd.C_below HR3.out HB.out) | (with_reducible refine Kd.C_alloc ?_ _) | (with_reducible refine Kd.C_drewN ?_ _) | (with_reducible refine Kd.C_drew ?_))); (case side2 => exact HC3.out); rintro e w' ⟨rfl, ⟨nd, rfl⟩⟩; refine ⟨_, rfl, ?_⟩; have p256 : 0 ≤ (a0 : Int) := of_decide_eq_true qa; have q256 : a0 < (l3.length : Int) := of_decide_eq_true qa; obtain ⟨ad256, e256, hx256_0⟩ := Kd.at_int HR3.out a0 p256 q256; cases e256; replace hx256_0 := (HB.out.cell (World.block_lt_of_cell? w _ hx256_0)).trans hx256_0; replace p256 := eq_true p256; replace q256 := eq_true q256) | ((with_reducible refine gate_callee (f := 83) rfl ?_); refine goesL_ (some 35) rfl rfl Tryz.func83 (by kernel_rfl) rfl #[.agg #[.int .u64 t254, .int .i64 a1], .int .u64 (IntKind.u64.wrap (a2 * (rd l3 a0)))] rfl ql ?_; (with_reducible refine (odds_game_share.calls k t254 a1 (IntKind.u64.wrap (a2 * (rd l3 a0))) t257 t260 _ A11.out).mono ?_); rintro e w13 ⟨v258, rfl, ho0, hb⟩; refine ⟨_, rfl, ?_⟩; have HO259 := Aside0.mk (Kd.V_lower (Kd.V_mono (ok' := fun k_ => (w.heap.size ≤ k_)) ho0 (fun k_ hk_ => (Nat.le_trans (below_size (qs HB)) hk_))) (below_size (qs HB))); replace HB := Aside0.mk (below_step (qs HB) hb); (try clear hb); (try clear hb2); (try clear hk); (try clear hi); (try clear ho0)))
     go_ret2
     exact ⟨_, by first | rfl | (simp [errW_none, errW_some] <;> rfl) | (simp [*, errW_none, errW_some] <;> rfl), (qv HO259), (qs HB)⟩
    ·rw [if_neg c10] at H
     exact absurd H (by simp)
   ·rw [if_neg c9] at H
    exact absurd H (by simp)
  ·rw [if_neg c8] at H
   exact absurd H (by simp)
 ·replace c6 := Bool.eq_false_iff.mpr c6
  subst c6
  have H1 : (none) = some (r1, r2) := by rw [if_neg (show ¬ (false = true) by decide)] at H; exact H
  clear H
  have H := H1
  clear H1
  exact absurd H (by simp)
def odds_Lead.f (k : Nat) (a0 : Int) (a1 : Int) (l2 : List Int) : Option (List Int × Int) := (odds_stake.f k a0 a1 1 l2).bind fun bt261 => (some (bt261.1, bt261.2))
theorem odds_Lead.mono : ∀ a0 a1 a2 k, LeO (odds_Lead.f k a0 a1 a2) (odds_Lead.f (k + 1) a0 a1 a2) := by
  intro a0 a1 a2 k
  unfold odds_Lead.f
  repeat' first
      | (with_reducible exact odds_stake.mono _ _ _ _ _)
      | (with_reducible exact LeO.refl _)
      | (with_reducible exact LeO.none _)
      | (with_reducible refine LeO.ite ?_ ?_)
      | (with_reducible refine LeO.bind ?_ (fun _ => ?_))
      | exact odds_stake.mono _ _ _ _ _
      | exact LeO.none _
      | refine LeO.ite ?_ ?_
      | refine LeO.bind ?_ (fun _ => ?_)
set_option maxHeartbeats 8000000 in
set_option maxRecDepth 100000 in
theorem odds_Lead.calls (k : Nat) (a0 : Int) (a1 : Int) (A2 : Option Addr) (c2 : Nat) (l2 : List Int) (r1 : List Int) (r2 : Int) (w : World) (hr2 : Kd.C (Kd.int .u64) w A2 l2.length l2) (hc2 : l2.length ≤ c2) (h : odds_Lead.f k a0 a1 l2 = some (r1, r2)) :
    Calls Tryz.prog 19 #[.int .i64 a0, .int .i64 a1, .slice A2 l2.length c2] w fun e w' => ∃ v0_ : Value, e = .returned (.tuple #[v0_, .int .i64 r2]) ∧ Kd.V (Kd.int .u32) 89 w' w.heap.size (fun k_ => (w.heap.size ≤ k_)) v0_ r1 ∧ Below w.heap.size w w' := by
  have HR2 := Aside0.mk hr2
  have HC2 := Aside0.mk hc2
  clear hr2 hc2
  have HB := Aside0.mk (Below.refl w.heap.size w)
  have H : ((odds_stake.f k a0 a1 1 l2).bind fun bt261 => (some (bt261.1, bt261.2))) = some (r1, r2) := h
  clear h
  replace H := Option.bind_eq_some_iff.mp H
  obtain ⟨⟨t261, t264⟩, A40, H⟩ := H
  try dsimp only at H
  have A4 := Aside0.mk A40
  clear A40
  simp only [Option.some.injEq, Prod.mk.injEq] at H
  obtain ⟨rfl, rfl⟩ := H
  go_enter Tryz.func19, Tryz.ntmps19
  go_wp2_with (first | ((with_reducible refine gate_callee (f := 52) rfl ?_); refine goesL_ (some 11) rfl rfl Tryz.func52 (by kernel_rfl) rfl #[.int .i64 a0, .int .i64 a1, .int .u64 1, .slice A2 l2.length c2] rfl ql ?_; (with_reducible refine (odds_stake.calls k a0 a1 1 _ _ l2 t261 t264 _ ?side1 ?side2 A4.out).mono ?_); (case side1 => repeat (first | exact HR2.out | (with_reducible refine Kd.C_alloc ?_ _) | (with_reducible refine Kd.C_drewN ?_ _) | (with_reducible refine Kd.C_drew ?_))); (case side2 => exact HC2.out); rintro e w5 ⟨v262, rfl, ho0, hb⟩; refine ⟨_, rfl, ?_⟩; have HO263 := Aside0.mk (Kd.V_lower (Kd.V_mono (ok' := fun k_ => (w.heap.size ≤ k_)) ho0 (fun k_ hk_ => (Nat.le_trans (below_size (qs HB)) hk_))) (below_size (qs HB))); replace HB := Aside0.mk (below_step (qs HB) hb); (try clear hb); (try clear hb2); (try clear hk); (try clear hi); (try clear ho0)))
  go_ret2
  exact ⟨_, by first | rfl | (simp [errW_none, errW_some] <;> rfl) | (simp [*, errW_none, errW_some] <;> rfl), (qv HO263), (qs HB)⟩
def slices_Clone_uint64_uint64.f (l0 : List Int) : Option (List Int) := (some (([] : List Int) : List Int)).bind fun y265 => (if y265.length + l0.length < 17592186044416 then (some (y265 ++ l0)) else (none))
set_option maxHeartbeats 8000000 in
set_option maxRecDepth 100000 in
theorem slices_Clone_uint64_uint64.calls (A0 : Option Addr) (c0 : Nat) (l0 : List Int) (r : List Int) (w : World) (hr0 : Kd.C (Kd.int .u64) w A0 l0.length l0) (hc0 : l0.length ≤ c0) (h : slices_Clone_uint64_uint64.f l0 = some r) :
    Calls Tryz.prog 58 #[.slice A0 l0.length c0] w fun e w' => ∃ v0_ : Value, e = .returned (v0_) ∧ Kd.R (Kd.int .u64) 24 w' w.heap.size (fun _ => True) v0_ r ∧ Below w.heap.size w w' := by
  cases A0 with
  | none =>
    obtain rfl : l0 = [] := by
      rcases l0 with _ | ⟨x_, l_⟩
      · rfl
      · exact absurd hr0 (by intro z_; obtain ⟨ad_, e_, _⟩ := Kd.at_int z_ 0 (by decide) (by first | (simp; done) | (simp; omega)); cases e_)
    have hq_ : r = [] := by simpa [slices_Clone_uint64_uint64.f] using h.symm
    subst hq_
    have hnil_ := fun (w_ : World) => Lib.run_eql_slice_nil (P := Tryz.prog) w_ 22 24 none 0 c0 0 0 Tryz.underlying22
    clear h hr0 hc0
    go_enter Tryz.func58, Tryz.ntmps58
    go_wp2
    go_ret
    exact ⟨_, rfl, Kd.R_nil _ _ _ _ _, by repeat (first | exact Below.refl _ _ | apply pw_below_drewN | apply below_drew1)⟩
  | some A0 =>
    have HR0 := Aside0.mk hr0
    have HC0 := Aside0.mk hc0
    clear hr0 hc0
    have HB := Aside0.mk (Below.refl w.heap.size w)
    have H : ((some (([] : List Int) : List Int)).bind fun y265 => (if y265.length + l0.length < 17592186044416 then (some (y265 ++ l0)) else (none))) = some r := h
    clear h
    obtain ⟨y265, hy265⟩ : ∃ y_ : List Int, y_ = (([] : List Int)) := ⟨_, rfl⟩
    replace H : (if y265.length + l0.length < 17592186044416 then (some (y265 ++ l0)) else (none)) = some r := by first | (rw [hy265]; with_reducible exact H) | (have H2_ := (Option.bind_some _ _).symm.trans H; rw [hy265]; with_reducible exact H2_) | (have H2_ := (Option.bind_some _ _).symm.trans H; with_reducible exact H2_) | with_reducible exact H | (rw [hy265]; exact H) | exact H
    have Ny265 := Aside0.mk hy265
    clear hy265
    by_cases c2 : y265.length + l0.length < 17592186044416
    · rw [if_pos c2] at H
      have LMc2 := Aside0.mk c2
      clear c2
      obtain ⟨y268, hy268⟩ : ∃ y_ : List Int, y_ = (y265 ++ l0) := ⟨_, rfl⟩
      replace H : (some y268) = some r := by first | (rw [hy268]; with_reducible exact H) | (have H2_ := (Option.bind_some _ _).symm.trans H; rw [hy268]; with_reducible exact H2_) | (have H2_ := (Option.bind_some _ _).symm.trans H; with_reducible exact H2_) | with_reducible exact H | (rw [hy268]; exact H) | exact H
      have Ny268 := Aside0.mk hy268
      clear hy268
      obtain rfl := Option.some.inj H
      have hnil_ := fun (w_ : World) => Lib.run_eql_slice_nil (P := Tryz.prog) w_ 22 24 (some A0) l0.length c0 0 0 Tryz.underlying22
      go_enter Tryz.func58, Tryz.ntmps58
      go_wp2_with (first | ((with_reducible refine qd 5 ?_); refine Kd.R_lit (Kd.int .u64) _ 24 ?hg (N := 5) ?hd (xs := ([] : List Int)) (inner := []) (ok := fun _ => True) (okp := fun _ => True) ?hr ?hp (fun _ hk => hk) trivial (Below.refl _ _) (Nat.le_refl _) (by simp) ?_; (case hd => rfl); (case hg => rfl); (case hr => first | (go_simp; done) | (go_simp; rfl)); (case hp => exact (Reps.none _ _)); intro v266 w3 ho4 hb hg_ hnew_; clear hg_ hnew_; (first | rw [← Ny265.out] at ho4 | (simp only [Int.reduceToNat] at ho4; rw [← Ny265.out] at ho4)); have HO267 := Aside0.mk (Kd.R_lower ho4 (below_size (qs HB))); replace HB := Aside0.mk (below_step (qs HB) hb); clear hb ho4) | ((with_reducible refine gate_builtin (b := .append) (xs := #[.tmp 5, .tmp 6]) rfl ?_); at_builtin; refine Kd.R_append_rows (Kd.int .u64) (w0 := w) w.heap.size rfl (.tmp 5) (.tmp 6) 22 24 (.int .u64 0) 8 rfl Tryz.underlying22 info24 rfl (by decide) (by omega) v266 y265 l0 _ _ _ (fun _ => True) (fun _ => False) rfl rfl ?aO ?aR (fun _ _ h => h) (fun _ h => h.elim) ?aF ?aB ?aS ?aL ?_; (case aR => repeat (first | exact (Kd.C_below HR0.out HB.out) | (with_reducible refine Kd.C_alloc ?_ _) | (with_reducible refine Kd.C_drewN ?_ _) | (with_reducible refine Kd.C_drew ?_))); (case aB => exact (qs HB)); (case aF => exact (fun _ _ => trivial)); (case aO => exact (qr HO267)); (case aS => exact (below_size (qs HB))); (case aL => have := LMc2.out; omega); intro v269 w5 ho hb hg hat; rw [← Ny268.out] at ho; replace HB := Aside0.mk (hb); have HO270 := Aside0.mk (ho); clear HO267 ho hb hg hat))
      go_ret
      exact ⟨_, by first | rfl | (simp [errW_none, errW_some] <;> rfl) | (simp [*, errW_none, errW_some] <;> rfl), (qr HO270), (qs HB)⟩
    · rw [if_neg c2] at H
      exact absurd H (by simp)
def fen_low.f (a0 : Int) : Option (Int) := some (Go.bits .and .i64 a0 (wrap64 (-a0)))
set_option maxHeartbeats 8000000 in
set_option maxRecDepth 100000 in
theorem fen_low.calls (a0 : Int) (r : Int) (w : World) (h : fen_low.f a0 = some r) :
    Calls Tryz.prog 59 #[.int .i64 a0] w fun e w' => e = .returned (.int .i64 r) ∧ Drawn0 w w' := by
  have H : (some (Go.bits .and .i64 a0 (wrap64 (-a0)))) = some r := h
  clear h
  obtain rfl := Option.some.inj H
  go_enter Tryz.func59, Tryz.ntmps59
  go_wp2
  go_ret
  exact ⟨by first | rfl | (simp; done) | (simp [*]; done), by repeat (first | exact Drawn0.refl _ | apply Drawn0.step)⟩
def fen_Build.l0 : Nat → List Int → Int → Option (List Int × Int)
 | 0, _, _ => none
 | k + 1, x6, x7 => if x7 ≤ (x6.length : Int) then ((fen_low.f x7).bind fun t277 => (if (wrap64 (x7 + t277)) ≤ (x6.length : Int) then (if 0 ≤ (wrap64 ((wrap64 (x7 + t277)) - 1)) then (if (wrap64 ((wrap64 (x7 + t277)) - 1)) < (x6.length : Int) then (if 0 ≤ (wrap64 (x7 - 1)) then (if (wrap64 (x7 - 1)) < (x6.length : Int) then (fen_Build.l0 k (x6.set ((wrap64 ((wrap64 (x7 + t277)) - 1)) : Int).toNat (IntKind.u64.wrap ((rd x6 (wrap64 ((wrap64 (x7 + t277)) - 1))) + (rd x6 (wrap64 (x7 - 1)))))) (wrap64 (x7 + 1))) else (none)) else (none)) else (none)) else (none)) else (fen_Build.l0 k x6 (wrap64 (x7 + 1))))) else (some (x6, 0))
def fen_Build.f (k : Nat) (l0 : List Int) : Option (List Int × Int) := if (l0.length : Int) > 1048576 then (some (([] : List Int), 14)) else ((safe_Total.f k l0).bind fun bt272 => (if bt272.2 = true then ((slices_Clone_uint64_uint64.f l0).bind fun t274 => (fen_Build.l0 k t274 1)) else (some (([] : List Int), 11))))
theorem fen_Build.mono_l : ∀ k, (∀ y0 y1, LeO (fen_Build.l0 k y0 y1) (fen_Build.l0 (k + 1) y0 y1))
 | 0 => fun _ _ r h => by simp [fen_Build.l0] at h
 | k + 1 => by
  have ih0 := fen_Build.mono_l k
  ·intro y0 y1
   unfold fen_Build.l0
   repeat' first
   | (with_reducible exact ih0 _ _)
   | (with_reducible exact safe_Total.mono _ _)
   | (with_reducible exact LeO.refl _)
   | (with_reducible exact LeO.none _)
   | (with_reducible refine LeO.ite ?_ ?_)
   | (with_reducible refine LeO.bind ?_ (fun _ => ?_))
   | exact ih0 _ _
   | exact safe_Total.mono _ _
   | exact LeO.none _
   | refine LeO.ite ?_ ?_
   | refine LeO.bind ?_ (fun _ => ?_)
theorem fen_Build.mono : ∀ a0 k, LeO (fen_Build.f k a0) (fen_Build.f (k + 1) a0) := by
 intro a0 k
 have ih0 := fen_Build.mono_l k
 unfold fen_Build.f
 repeat' first
   | (with_reducible exact ih0 _ _)
   | (with_reducible exact safe_Total.mono _ _)
   | (with_reducible exact LeO.refl _)
   | (with_reducible exact LeO.none _)
   | (with_reducible refine LeO.ite ?_ ?_)
   | (with_reducible refine LeO.bind ?_ (fun _ => ?_))
   | exact ih0 _ _
   | exact safe_Total.mono _ _
   | exact LeO.none _
   | refine LeO.ite ?_ ?_
   | refine LeO.bind ?_ (fun _ => ?_)
def fen_Build.T12 : Bool × List (List Nat × List Nat) := (true, [([], []), ([], []), ([1], [1]), ([0, 2], [0, 2]), ([3], [3]), ([], []), ([], []), ([6], [6]), ([5, 7], [5, 7]), ([8], [8]), ([4, 9], [4, 9]), ([0, 2, 0, 1, 2, 3, 4, 5, 6, 7, 8, 9, 10], [0, 2]), ([11, 10, 0, 1, 2, 3, 4, 5, 6, 7, 8, 9, 10], [10, 11])])
def fen_Build.B12 : List Nat := [0, 0, 2, 7, 15, 0, 0, 64, 224, 480, 1023, 2047, 4095]
theorem fen_Build.tab12 : rtab .any (opsOf Tryz.f22 12) = fen_Build.T12 := by kernel_rfl
theorem fen_Build.bits12 : waitsOk fen_Build.T12.2 fen_Build.B12 = true := by kernel_rfl
set_option maxHeartbeats 8000000 in
set_option maxRecDepth 100000 in
theorem fen_Build.calls (k : Nat) (A0 : Option Addr) (c0 : Nat) (l0 : List Int) (r1 : List Int) (r2 : Int) (w : World) (hr0 : Kd.C (Kd.int .u64) w A0 l0.length l0) (hc0 : l0.length ≤ c0) (h : fen_Build.f k l0 = some (r1, r2)) :
  Calls Tryz.prog 22 #[.slice A0 l0.length c0] w fun e w' => ∃ v0_ : Value, e = .returned (.tuple #[.agg #[v0_], .int .i64 r2]) ∧ Kd.R (Kd.int .u64) 24 w' w.heap.size (fun _ => True) v0_ r1 ∧ Below w.heap.size w w' := by
 have hu54 := Tryz.underlying54
 have HR0 := Aside0.mk hr0
 have HC0 := Aside0.mk hc0
 clear hr0 hc0
 have HB := Aside0.mk (Below.refl w.heap.size w)
 have H : (if (l0.length : Int) > 1048576 then (some (([] : List Int), 14)) else ((safe_Total.f k l0).bind fun bt272 => (if bt272.2 = true then ((slices_Clone_uint64_uint64.f l0).bind fun t274 => (fen_Build.l0 k t274 1)) else (some (([] : List Int), 11))))) = some (r1, r2) := h
 clear h
 by_cases c2 : (l0.length : Int) > 1048576
 ·rw [if_pos c2] at H
  have c2b0 : decide (1048576 < (l0.length : Int)) = true := decide_eq_true c2
  have c2b1 : decide (1048576 < l0.length) = true := decide_eq_true (by omega)
  clear c2
  simp only [Option.some.injEq, Prod.mk.injEq] at H
  obtain ⟨rfl, rfl⟩ := H
  go_enter Tryz.func22, Tryz.ntmps22
  go_wp2_with (first | ((with_reducible refine qd 2 ?_); refine box_event ?hg (N := 2) ?hd (cs := #[.slice none 0 0]) (t := 54) ?hr ?_; (case hd => rfl); (case hg => rfl); (case hr => first | (go_simp; done) | (go_simp; rfl)); intro gb271 hg w3 hbox hb; have BK271 := Aside0.mk (hbox); have GW271 := Aside0.mk (qe HB hg); have GE271 := Aside0.mk (qe HB hg); replace HB := Aside0.mk (below_step (qs HB) hb); clear hb hbox hg; have hcz4_0 : w3.cell? ⟨gb271, 0, none⟩ = some (.slice none 0 0) := (blk_cell BK271.out 0).trans rfl; have hfz4_0 := blk_frozen BK271.out 0))
  refine bodyPost_ret (results_ct rfl _ _ gb271 54 #[.slice none 0 0] (0, 0) _ rfl (by (with_reducible repeat (first | refine blk_drewN ?_ _ | refine blk_drew ?_ | refine blk_alloc ?_ _)); refine blk_put (cs := #[.slice none 0 0]) ?_ 0 _ rfl; (with_reducible repeat (first | refine blk_drewN ?_ _ | refine blk_drew ?_ | refine blk_alloc ?_ _)); exact BK271.out) Tryz.underlying54 rfl qZ) rfl ?_
  exact ⟨_, by first | rfl | (simp [errW_none, errW_some] <;> rfl) | (simp [*, errW_none, errW_some] <;> rfl), by first | exact Kd.R_nil _ _ _ _ _ | exact Kd.N_nil _ _ _ _ _ | exact Kd.V_nil _ _ _ _ _ | exact Kd.Q_nil _ _ _ _ _ | exact Kd.S_nil _ _ _ _ _, (qs HB)⟩
 ·rw [if_neg c2] at H
  have c2b0 : decide (1048576 < (l0.length : Int)) = false := decide_eq_false c2
  have c2b1 : decide (1048576 < l0.length) = false := decide_eq_false (by omega)
  clear c2
  replace H := Option.bind_eq_some_iff.mp H
  obtain ⟨⟨t272, t273⟩, A50, H⟩ := H
  try dsimp only at H
  have A5 := Aside0.mk A50
  clear A50
  by_cases c6 : t273 = true
  ·subst c6
   have H1 : ((slices_Clone_uint64_uint64.f l0).bind fun t274 => (fen_Build.l0 k t274 1)) = some (r1, r2) := by rw [if_pos rfl] at H; exact H
   clear H
   have H := H1
   clear H1
   replace H := Option.bind_eq_some_iff.mp H
   obtain ⟨t274, A70, H⟩ := H
   try dsimp only at H
   have A7 := Aside0.mk A70
   clear A70
   have H' := Aside0.mk H
   clear H
   go_enter Tryz.func22, Tryz.ntmps22
   go_wp2_with (first | ((with_reducible refine qd 2 ?_); refine box_event ?hg (N := 2) ?hd (cs := #[.slice none 0 0]) (t := 54) ?hr ?_; (case hd => rfl); (case hg => rfl); (case hr => first | (go_simp; done) | (go_simp; rfl)); intro gb271 hg w8 hbox hb; have BK271 := Aside0.mk (hbox); have GW271 := Aside0.mk (qe HB hg); have GE271 := Aside0.mk (qe HB hg); replace HB := Aside0.mk (below_step (qs HB) hb); clear hb hbox hg) | ((with_reducible refine gate_callee (f := 57) rfl ?_); refine goesL_ (some 15) rfl rfl Tryz.func57 (by kernel_rfl) rfl #[.slice A0 l0.length c0] rfl ql ?_; (with_reducible refine (safe_Total.calls k _ _ l0 t272 true _ ?side1 ?side2 A5.out).mono ?_); (case side1 => repeat (first | exact (Kd.C_below HR0.out HB.out) | (with_reducible refine Kd.C_alloc ?_ _) | (with_reducible refine Kd.C_drewN ?_ _) | (with_reducible refine Kd.C_drew ?_))); (case side2 => exact HC0.out); rintro e w' ⟨rfl, ⟨nd, rfl⟩⟩; refine ⟨_, rfl, ?_⟩) | ((with_reducible refine gate_callee (f := 58) rfl ?_); refine goesL_ (some 22) rfl rfl Tryz.func58 (by kernel_rfl) rfl #[.slice A0 l0.length c0] rfl ql ?_; (with_reducible refine (slices_Clone_uint64_uint64.calls _ _ l0 t274 _ ?side1 ?side2 A7.out).mono ?_); (case side1 => repeat (first | exact (Kd.C_below HR0.out (qs HB)) | (with_reducible refine Kd.C_alloc ?_ _) | (with_reducible refine Kd.C_drewN ?_ _) | (with_reducible refine Kd.C_drew ?_))); (case side2 => exact HC0.out); rintro e w9 ⟨v275, rfl, ho0, hb⟩; refine ⟨_, rfl, ?_⟩; have HO276 := Aside0.mk (Kd.R_lower ho0 (below_size (qs HB))); replace BK271 := Aside0.mk (qB BK271 hb); replace HB := Aside0.mk (below_step (qs HB) hb); (try clear hb); (try clear hb2); (try clear hk); (try clear hi); (try clear ho0)))
   go_loopg [7] k (fun kq v7 w' => ∃ (x6_1 : List Int) (x7_1 : Int), v7 = .int .i64 x7_1 ∧ Aside0 (fen_Build.l0 kq x6_1 x7_1 = some (r1, r2)) ∧ Aside0 (kq ≤ k) ∧ Aside0 (Kd.R (Kd.int .u64) 24 w' w.heap.size (fun _ => True) v275 x6_1) ∧ Aside0 (w'.heap[gb271]? = some (.cells #[(.slice none 0 0)] 54 (0, 0))) ∧ Aside0 (Below w.heap.size w w'))
   case atStart => exact ⟨(t274), (1), (by first | rfl | (simp; done) | (simp [*]; done)), H', ⟨Nat.le_refl _⟩, ⟨(qr HO276)⟩, ⟨(qb BK271)⟩, ⟨(qs HB)⟩⟩
   case round =>
    clear H'
    try clear c2
    try clear c2b0
    try clear c2b1
    try clear p2
    try clear c5
    try clear c6
    try clear hcz4_0
    try clear hfz4_0
    obtain ⟨x6_1, x7_1, rfl, HA, HK1, HO_6, BK271, HB⟩ := hrel
    cases gk with
    | zero => exact absurd HA.out (by simp [fen_Build.l0])
    | succ k1 =>
     have H := HA.out
     clear HA
     simp only [fen_Build.l0] at H
     by_cases c10 : x7_1 ≤ (x6_1.length : Int)
     ·rw [if_pos c10] at H
      have c10b0 : decide (x7_1 ≤ (x6_1.length : Int)) = true := decide_eq_true c10
      clear c10
      replace H := Option.bind_eq_some_iff.mp H
      obtain ⟨t277, A110, H⟩ := H
      try dsimp only at H
      have A11 := Aside0.mk A110
      clear A110
      by_cases c12 : (wrap64 (x7_1 + t277)) ≤ (x6_1.length : Int)
      ·rw [if_pos c12] at H
       have c12b0 : decide ((wrap64 (x7_1 + t277)) ≤ (x6_1.length : Int)) = true := decide_eq_true c12
       clear c12
       obtain ⟨ji13, hji13⟩ : ∃ j_ : Int, (wrap64 ((wrap64 (x7_1 + t277)) - 1)) = j_ := ⟨_, rfl⟩
       replace H : (if 0 ≤ (ji13) then (if (ji13) < (x6_1.length : Int) then (if 0 ≤ (wrap64 (x7_1 - 1)) then (if (wrap64 (x7_1 - 1)) < (x6_1.length : Int) then (fen_Build.l0 k1 (x6_1.set ((ji13) : Int).toNat (IntKind.u64.wrap ((rd x6_1 (ji13)) + (rd x6_1 (wrap64 (x7_1 - 1)))))) (wrap64 (x7_1 + 1))) else (none)) else (none)) else (none)) else (none)) = some (r1, r2) := by first | (rw [hji13] at H; exact H) | (simp only [hji13] at H ⊢; exact H)
       (try rw [hji13] at A11)
       have hji13w : (IntKind.i64.wrap ((wrap64 (x7_1 + t277)) - 1)) = ji13 := (i64_w _).trans hji13
       by_cases c14 : 0 ≤ (ji13)
       ·rw [if_pos c14] at H
        have c14b0 : decide (0 ≤ (ji13)) = true := decide_eq_true c14
        clear c14
        by_cases c15 : (ji13) < (x6_1.length : Int)
        ·rw [if_pos c15] at H
         have c15b0 : decide ((ji13) < (x6_1.length : Int)) = true := decide_eq_true c15
         clear c15
         obtain ⟨ji16, hji16⟩ : ∃ j_ : Int, (wrap64 (x7_1 - 1)) = j_ := ⟨_, rfl⟩
         replace H : (if 0 ≤ (ji16) then (if (ji16) < (x6_1.length : Int) then (fen_Build.l0 k1 (x6_1.set ((ji13) : Int).toNat (IntKind.u64.wrap ((rd x6_1 (ji13)) + (rd x6_1 (ji16))))) (wrap64 (x7_1 + 1))) else (none)) else (none)) = some (r1, r2) := by first | (rw [hji16] at H; exact H) | (simp only [hji16] at H ⊢; exact H)
         (try rw [hji16] at A11)
         have hji16w : (IntKind.i64.wrap (x7_1 - 1)) = ji16 := (i64_w _).trans hji16
         by_cases c17 : 0 ≤ (ji16)
         ·rw [if_pos c17] at H
          have c17b0 : decide (0 ≤ (ji16)) = true := decide_eq_true c17
          clear c17
          by_cases c18 : (ji16) < (x6_1.length : Int)
          ·rw [if_pos c18] at H
           have c18b0 : decide ((ji16) < (x6_1.length : Int)) = true := decide_eq_true c18
           clear c18
           obtain ⟨y280, hy280⟩ : ∃ y_ : List Int, y_ = (x6_1.set ((ji13) : Int).toNat (IntKind.u64.wrap ((rd x6_1 (ji13)) + (rd x6_1 (ji16))))) := ⟨_, rfl⟩
           replace H : (fen_Build.l0 k1 y280 (wrap64 (x7_1 + 1))) = some (r1, r2) := by first | (rw [hy280]; with_reducible exact H) | (have H2_ := (Option.bind_some _ _).symm.trans H; rw [hy280]; with_reducible exact H2_) | (have H2_ := (Option.bind_some _ _).symm.trans H; with_reducible exact H2_) | with_reducible exact H | (rw [hy280]; exact H) | exact H
           have Ny280 := Aside0.mk hy280
           clear hy280
           have H' := Aside0.mk H
           clear H
           obtain ⟨Ao20, co20, eo20⟩ := Kd.R_slice HO_6.out
           subst eo20
           try go_wp2_with (first | ((with_reducible refine gate_callee (f := 59) rfl ?_); refine goesL_ (some 31) rfl rfl Tryz.func59 (by kernel_rfl) rfl #[.int .i64 x7_1] rfl ql ?_; (with_reducible refine (fen_low.calls x7_1 t277 _ A11.out).mono ?_); rintro e w' ⟨rfl, ⟨nd, rfl⟩⟩; refine ⟨_, rfl, ?_⟩; (try (rw [drewN_self wr]; generalize hq_ : World.drewN wr _ = wr; have n0_ : Aside0 (Kd.R (Kd.int .u64) 24 wr w.heap.size (fun _ => True) (.slice Ao20 x6_1.length co20) x6_1) := ⟨by rw [← hq_]; exact (qr HO_6)⟩; have n1_ : Aside0 (wr.heap[gb271]? = some (.cells #[.slice none 0 0] 54 (0, 0))) := ⟨by rw [← hq_]; exact (qb BK271)⟩; have n2_ : Aside0 (Below w.heap.size w wr) := ⟨by rw [← hq_]; exact (qs HB)⟩; clear HO_6 BK271 HB hq_; have HO_6 := n0_; have BK271 := n1_; have HB := n2_; clear n0_ n1_ n2_))))
           replace HO_6 := Aside0.mk (Kd.R_drew HO_6.out)
           replace BK271 := Aside0.mk (blk_drew BK271.out)
           replace HB := Aside0.mk (below_drew1 HB.out)
           have p278 : 0 ≤ ((ji13) : Int) := of_decide_eq_true qa
           have q278 : (ji13) < (x6_1.length : Int) := of_decide_eq_true qa
           obtain ⟨ad278, e278, hx278_0⟩ := Kd.at_int (Kd.R_reads' HO_6.out).2.2 (ji13) p278 q278
           cases e278
           replace p278 := eq_true p278
           replace q278 := eq_true q278
           have p279 : 0 ≤ ((ji16) : Int) := of_decide_eq_true qa
           have q279 : (ji16) < (x6_1.length : Int) := of_decide_eq_true qa
           obtain ⟨ad279, e279, hx279_0⟩ := Kd.at_int (Kd.R_reads' HO_6.out).2.2 (ji16) p279 q279
           obtain rfl : ad278 = ad279 := (by injection e279)
           replace p279 := eq_true p279
           replace q279 := eq_true q279
           have p19 : 0 ≤ ((ji13) : Int) := of_decide_eq_true qa
           have q19 : ((ji13) : Int) < ((x6_1.length : Int) : Int) := of_decide_eq_true qa
           obtain ⟨go19, co19, eo19, gb19, gl19, cl19, HG19⟩ := Kd.R_form HO_6.out (by omega)
           (first | cases eo19 | (injection eo19 with ea_ en_ ec_; (first | subst ea_ | (injection ea_ with ea_; subst ea_)); subst ec_; clear en_))
           have GB19 := Aside0.mk gb19
           have GG19 := Aside0.mk HG19
           clear gb19 gl19 HG19
           (first | simp only [add_plain] at hx278_0 | skip)
           (first | simp only [add_plain] at hx279_0 | skip)
           obtain ⟨hx19_0, hf19_0⟩ := Kd.R_celln 0 HO_6.out ((ji13) : Int) p19 q19
           replace p19 := eq_true p19
           replace q19 := eq_true q19
           have HP22 := Kd.R_putn HO_6.out ((ji13) : Int) (IntKind.u64.wrap ((rd x6_1 (ji13)) + (rd x6_1 (ji16))))
           rw [← Ny280.out] at HP22
           have HQ22 := Aside0.mk HP22
           clear HP22
           refine start_ (n := 13) (S := fun w' => w'.cell? ⟨go19, ((ji13)).toNat, none⟩ = some (.int .u64 (rd x6_1 (ji13))) ∧ w'.cell? ⟨go19, ((ji16)).toNat, none⟩ = some (.int .u64 (rd x6_1 (ji16)))) (ds := [12]) #[false, false, false, false, false, false, false, false, false, false, false, false, false] (by kernel_rfl) rfl rfl ⟨hx278_0, hx279_0⟩ (fun hHeld => ?_); refine with_tabW fen_Build.tab12 fen_Build.bits12 (fun HT_ HW_ => ?_)
           generalize wr.drew = w21 at HO_6 BK271 HB GG19 HQ22 hf19_0 hx19_0 hx278_0 hx279_0 hHeld ⊢
           refine qQ 0 (some 37) (qt 13 1) (any_of HT_.out (by kernel_rfl)) ?_
           refine qQ 1 (some 38) (qt 13 3) (any_of HT_.out (by kernel_rfl)) ?_
           refine qQ 2 (some 39) (qt 13 7) (any_of HT_.out (by kernel_rfl)) ?_
           refine qQ 3 (some 40) (qt 13 15) (any_of HT_.out (by kernel_rfl)) ?_
           refine qQ 5 (some 42) (qt 13 47) (any_of HT_.out (by kernel_rfl)) ?_
           refine qQ 6 (some 43) (qt 13 111) (any_of HT_.out (by kernel_rfl)) ?_
           refine qQ 7 (some 44) (qt 13 239) (any_of HT_.out (by kernel_rfl)) ?_
           refine qQ 8 (some 45) (qt 13 495) (any_of HT_.out (by kernel_rfl)) ?_
           refine take_ (i := 4) (N := some 41) (v := ?_) (a' := ?_) (qt 13 511) rfl rfl (take_ofW HT_.out HW_.out (by kernel_rfl)) (fun _ _ _ h => h) (Or.inl ⟨by rfl, ?_⟩) hHeld ?_ ?_
           rotate_left
           ·rintro w' ⟨s0, s1⟩
            go_simp
            with_reducible rfl
           rotate_left
           ·simp only [Act.put, zA_, zB_, zC_, i64_w, i32_w]
            rfl
           refine take_ (i := 9) (N := some 46) (v := ?_) (a' := ?_) (qt 13 1023) rfl rfl (take_ofW HT_.out HW_.out (by kernel_rfl)) (fun _ _ _ h => h) (Or.inl ⟨by rfl, ?_⟩) hHeld ?_ ?_
           rotate_left
           ·rintro w' ⟨s0, s1⟩
            go_simp
            with_reducible rfl
           rotate_left
           ·simp only [Act.put, zA_, zB_, zC_, i64_w, i32_w]
            rfl
           refine qQ 10 (some 47) (qt 13 2047) (any_of HT_.out (by kernel_rfl)) ?_
           refine qQ 11 (some 48) (qt 13 4095) (any_of HT_.out (by kernel_rfl)) ?_
           refine last_ (i := 12) (N := none) (qt 13 8191) rfl rfl (one_of HT_.out (by kernel_rfl)) (by decide) (fun K hK => ?_)
           refine skip_ (w1 := ?_) (by rfl) rfl ?_ ?_
           rotate_left
           ·go_simp
            rfl
           refine hK.out _ _ ?_
           clear hK K
           refine done_ (done_of HT_.out (by kernel_rfl)) ?_
           try go_wp2
           go_roundg k1
           case measure => have := HK1.out; omega
           case rel => exact ⟨(y280), (wrap64 (x7_1 + 1)), (by first | rfl | (simp; done) | (simp [*]; done)), H', ⟨by have := HK1.out; omega⟩, ⟨(qr HQ22)⟩, ⟨by (with_reducible repeat (first | refine blk_drewN ?_ _ | refine blk_drew ?_ | refine blk_alloc ?_ _)); refine blk_far ?_ (by have h_ := Kd.R_ne HO_6.out BK271.out (by decide); intro e_; exact h_ (by rw [e_]; rfl)) _; (with_reducible repeat (first | refine blk_drewN ?_ _ | refine blk_drew ?_ | refine blk_alloc ?_ _)); exact BK271.out⟩, ⟨by repeat (first | (with_reducible first | exact HB.out | apply below_alloc | apply pw_below_drewN | apply below_drew1 | refine below_set ?_ GB19.out | refine below_set ?_ GE271.out) | exact HB.out)⟩⟩
          ·rw [if_neg c18] at H
           exact absurd H (by simp)
         ·rw [if_neg c17] at H
          exact absurd H (by simp)
        ·rw [if_neg c15] at H
         exact absurd H (by simp)
       ·rw [if_neg c14] at H
        exact absurd H (by simp)
      ·rw [if_neg c12] at H
       have c12b0 : decide ((wrap64 (x7_1 + t277)) ≤ (x6_1.length : Int)) = false := decide_eq_false c12
       clear c12
       have H' := Aside0.mk H
       clear H
       obtain ⟨Ao23, co23, eo23⟩ := Kd.R_slice HO_6.out
       subst eo23
       go_wp2_with (first | ((with_reducible refine gate_callee (f := 59) rfl ?_); refine goesL_ (some 31) rfl rfl Tryz.func59 (by kernel_rfl) rfl #[.int .i64 x7_1] rfl ql ?_; (with_reducible refine (fen_low.calls x7_1 t277 _ A11.out).mono ?_); rintro e w' ⟨rfl, ⟨nd, rfl⟩⟩; refine ⟨_, rfl, ?_⟩))
       go_roundg k1
       case measure => have := HK1.out; omega
       case rel => exact ⟨(x6_1), (wrap64 (x7_1 + 1)), (by first | rfl | (simp; done) | (simp [*]; done)), H', ⟨by have := HK1.out; omega⟩, ⟨(qr HO_6)⟩, ⟨(qb BK271)⟩, ⟨(qs HB)⟩⟩
     ·rw [if_neg c10] at H
      have c10b0 : decide (x7_1 ≤ (x6_1.length : Int)) = false := decide_eq_false c10
      clear c10
      simp only [Option.some.injEq, Prod.mk.injEq] at H
      obtain ⟨rfl, rfl⟩ := H
      obtain ⟨Ao24, co24, eo24⟩ := Kd.R_slice HO_6.out
      subst eo24
      have hcz25_0 : wr.cell? ⟨gb271, 0, none⟩ = some (.slice none 0 0) := (blk_cell BK271.out 0).trans rfl
      have hfz25_0 := blk_frozen BK271.out 0
      go_wp2
      refine bodyPost_ret (results_ct rfl _ _ gb271 54 #[.slice Ao24 x6_1.length co24] (0, 0) _ rfl (by (with_reducible repeat (first | refine blk_drewN ?_ _ | refine blk_drew ?_ | refine blk_alloc ?_ _)); refine blk_put (cs := #[.slice none 0 0]) ?_ 0 _ rfl; (with_reducible repeat (first | refine blk_drewN ?_ _ | refine blk_drew ?_ | refine blk_alloc ?_ _)); exact BK271.out) Tryz.underlying54 rfl qZ) rfl ?_
      exact ⟨_, by first | rfl | (simp [errW_none, errW_some] <;> rfl) | (simp [*, errW_none, errW_some] <;> rfl), by (with_reducible repeat (first | apply Kd.R_alloc | apply Kd.R_drewN | apply Kd.R_drew)); exact Kd.R_mono (Kd.R_far (p := ⟨gb271, 0, none⟩) (Kd.R_types HO_6.out BK271.out (by decide)) (fun _ hk => hk.2) (.slice Ao24 x6_1.length co24)) (fun _ hk => trivial), (qs HB)⟩
  ·replace c6 := Bool.eq_false_iff.mpr c6
   subst c6
   have H1 : (some (([] : List Int), 11)) = some (r1, r2) := by rw [if_neg (show ¬ (false = true) by decide)] at H; exact H
   clear H
   have H := H1
   clear H1
   simp only [Option.some.injEq, Prod.mk.injEq] at H
   obtain ⟨rfl, rfl⟩ := H
   go_enter Tryz.func22, Tryz.ntmps22
   go_wp2_with (first | ((with_reducible refine qd 2 ?_); refine box_event ?hg (N := 2) ?hd (cs := #[.slice none 0 0]) (t := 54) ?hr ?_; (case hd => rfl); (case hg => rfl); (case hr => first | (go_simp; done) | (go_simp; rfl)); intro gb271 hg w26 hbox hb; have BK271 := Aside0.mk (hbox); have GW271 := Aside0.mk (qe HB hg); have GE271 := Aside0.mk (qe HB hg); replace HB := Aside0.mk (below_step (qs HB) hb); clear hb hbox hg) | ((with_reducible refine gate_callee (f := 57) rfl ?_); refine goesL_ (some 15) rfl rfl Tryz.func57 (by kernel_rfl) rfl #[.slice A0 l0.length c0] rfl ql ?_; (with_reducible refine (safe_Total.calls k _ _ l0 t272 false _ ?side1 ?side2 A5.out).mono ?_); (case side1 => repeat (first | exact (Kd.C_below HR0.out HB.out) | (with_reducible refine Kd.C_alloc ?_ _) | (with_reducible refine Kd.C_drewN ?_ _) | (with_reducible refine Kd.C_drew ?_))); (case side2 => exact HC0.out); rintro e w' ⟨rfl, ⟨nd, rfl⟩⟩; refine ⟨_, rfl, ?_⟩; (try (rw [drewN_self w26]; generalize hq_ : World.drewN w26 _ = w26; have n0_ : Aside0 (w26.heap[gb271]? = some (.cells #[.slice none 0 0] 54 (0, 0))) := ⟨by rw [← hq_]; exact (qb BK271)⟩; have n1_ : Aside0 (Below w.heap.size w w26) := ⟨by rw [← hq_]; exact (qs HB)⟩; clear BK271 HB hq_; have BK271 := n0_; have HB := n1_; clear n0_ n1_)); have hcz27_0 : w26.cell? ⟨gb271, 0, none⟩ = some (.slice none 0 0) := (blk_cell BK271.out 0).trans rfl; have hfz27_0 := blk_frozen BK271.out 0))
   refine bodyPost_ret (results_ct rfl _ _ gb271 54 #[.slice none 0 0] (0, 0) _ rfl (by (with_reducible repeat (first | refine blk_drewN ?_ _ | refine blk_drew ?_ | refine blk_alloc ?_ _)); refine blk_put (cs := #[.slice none 0 0]) ?_ 0 _ rfl; (with_reducible repeat (first | refine blk_drewN ?_ _ | refine blk_drew ?_ | refine blk_alloc ?_ _)); exact BK271.out) Tryz.underlying54 rfl qZ) rfl ?_
   exact ⟨_, by first | rfl | (simp [errW_none, errW_some] <;> rfl) | (simp [*, errW_none, errW_some] <;> rfl), by first | exact Kd.R_nil _ _ _ _ _ | exact Kd.N_nil _ _ _ _ _ | exact Kd.V_nil _ _ _ _ _ | exact Kd.Q_nil _ _ _ _ _ | exact Kd.S_nil _ _ _ _ _, (qs HB)⟩
def fen_Len.f (l0_0 : List Int) : Option (Int) := some (l0_0.length : Int)
set_option maxHeartbeats 8000000 in
set_option maxRecDepth 100000 in
theorem fen_Len.calls (A0_0 : Option Addr) (c0_0 : Nat) (l0_0 : List Int) (r : Int) (w : World) (hr0_0 : Kd.C (Kd.int .u64) w A0_0 l0_0.length l0_0) (hc0_0 : l0_0.length ≤ c0_0) (h : fen_Len.f l0_0 = some r) :
    Calls Tryz.prog 62 #[.agg #[.slice A0_0 l0_0.length c0_0]] w fun e w' => e = .returned (.int .i64 r) ∧ Below w.heap.size w w' := by
  have hu54 := Tryz.underlying54
  have HR0_0 := Aside0.mk hr0_0
  have HC0_0 := Aside0.mk hc0_0
  clear hr0_0 hc0_0
  have HB := Aside0.mk (Below.refl w.heap.size w)
  have H : (some (l0_0.length : Int)) = some r := h
  clear h
  obtain rfl := Option.some.inj H
  go_enter Tryz.func62, Tryz.ntmps62
  go_wp2_with (first | ((with_reducible refine qd 1 ?_); refine box_event ?hg (N := 1) ?hd (cs := #[.slice A0_0 l0_0.length c0_0]) (t := 54) ?hr ?_; (case hd => rfl); (case hg => rfl); (case hr => first | (go_simp; done) | (go_simp; rfl)); intro gb281 hg w2 hbox hb; have BK281 := Aside0.mk (hbox); have GW281 := Aside0.mk (qe HB hg); have GE281 := Aside0.mk (qe HB hg); replace HB := Aside0.mk (below_step (qs HB) hb); clear hb hbox hg; have hcz3_0 : w2.cell? ⟨gb281, 0, none⟩ = some (.slice A0_0 l0_0.length c0_0) := (blk_cell BK281.out 0).trans rfl; have hfz3_0 := blk_frozen BK281.out 0))
  go_ret
  exact ⟨by first | rfl | (simp [errW_none, errW_some] <;> rfl) | (simp [*, errW_none, errW_some] <;> rfl), (qs HB)⟩
def fen_prefix.l0 : Nat → Int → Int → List Int → Option (Int)
 | 0, _, _, _ => none
 | k + 1, x1, x4, x283000 => if x1 > 0 then (if 0 ≤ (wrap64 (x1 - 1)) then (if (wrap64 (x1 - 1)) < (x283000.length : Int) then ((fen_low.f x1).bind fun t284 => (fen_prefix.l0 k (wrap64 (x1 - t284)) (IntKind.u64.wrap (x4 + (rd x283000 (wrap64 (x1 - 1))))) x283000)) else (none)) else (none)) else (some x4)
def fen_prefix.f (k : Nat) (l0_0 : List Int) (a1 : Int) : Option (Int) := fen_prefix.l0 k a1 0 l0_0
theorem fen_prefix.mono_l : ∀ k, (∀ y0 y1 y2, LeO (fen_prefix.l0 k y0 y1 y2) (fen_prefix.l0 (k + 1) y0 y1 y2))
 | 0 => fun _ _ _ r h => by simp [fen_prefix.l0] at h
 | k + 1 => by
  have ih0 := fen_prefix.mono_l k
  ·intro y0 y1 y2
   unfold fen_prefix.l0
   repeat' first
   | (with_reducible exact ih0 _ _ _)
   | (with_reducible exact LeO.refl _)
   | (with_reducible exact LeO.none _)
   | (with_reducible refine LeO.ite ?_ ?_)
   | (with_reducible refine LeO.bind ?_ (fun _ => ?_))
   | exact ih0 _ _ _
   | exact LeO.none _
   | refine LeO.ite ?_ ?_
   | refine LeO.bind ?_ (fun _ => ?_)
theorem fen_prefix.mono : ∀ a0 a1 k, LeO (fen_prefix.f k a0 a1) (fen_prefix.f (k + 1) a0 a1) := by
 intro a0 a1 k
 have ih0 := fen_prefix.mono_l k
 unfold fen_prefix.f
 repeat' first
   | (with_reducible exact ih0 _ _ _)
   | (with_reducible exact LeO.refl _)
   | (with_reducible exact LeO.none _)
   | (with_reducible refine LeO.ite ?_ ?_)
   | (with_reducible refine LeO.bind ?_ (fun _ => ?_))
   | exact ih0 _ _ _
   | exact LeO.none _
   | refine LeO.ite ?_ ?_
   | refine LeO.bind ?_ (fun _ => ?_)
set_option maxHeartbeats 8000000 in
set_option maxRecDepth 100000 in
theorem fen_prefix.calls (k : Nat) (A0_0 : Option Addr) (c0_0 : Nat) (l0_0 : List Int) (a1 : Int) (r : Int) (w : World) (hr0_0 : Kd.C (Kd.int .u64) w A0_0 l0_0.length l0_0) (hc0_0 : l0_0.length ≤ c0_0) (h : fen_prefix.f k l0_0 a1 = some r) :
  Calls Tryz.prog 86 #[.agg #[.slice A0_0 l0_0.length c0_0], .int .i64 a1] w fun e w' => e = .returned (.int .u64 r) ∧ Below w.heap.size w w' := by
 have hu54 := Tryz.underlying54
 have HR0_0 := Aside0.mk hr0_0
 have HC0_0 := Aside0.mk hc0_0
 clear hr0_0 hc0_0
 have HB := Aside0.mk (Below.refl w.heap.size w)
 have H : (fen_prefix.l0 k a1 0 l0_0) = some r := h
 clear h
 have H' := Aside0.mk H
 clear H
 go_enter Tryz.func86, Tryz.ntmps86
 go_wp2_with (first | ((with_reducible refine qd 2 ?_); refine box_event ?hg (N := 2) ?hd (cs := #[.slice A0_0 l0_0.length c0_0]) (t := 54) ?hr ?_; (case hd => rfl); (case hg => rfl); (case hr => first | (go_simp; done) | (go_simp; rfl)); intro gb282 hg w3 hbox hb; have BK282 := Aside0.mk (hbox); have GW282 := Aside0.mk (qe HB hg); have GE282 := Aside0.mk (qe HB hg); replace HB := Aside0.mk (below_step (qs HB) hb); clear hb hbox hg))
 go_loopg [1, 4] k (fun kq v1 v4 w' => ∃ (x1_1 : Int) (x4_1 : Int), v1 = .int .i64 x1_1 ∧ v4 = .int .u64 x4_1 ∧ Aside0 (fen_prefix.l0 kq x1_1 x4_1 l0_0 = some r) ∧ Aside0 (kq ≤ k) ∧ Aside0 (w'.heap[gb282]? = some (.cells #[(.slice A0_0 l0_0.length c0_0)] 54 (0, 0))) ∧ Aside0 (Below w.heap.size w w'))
 case atStart => exact ⟨(a1), (0), (by first | rfl | (simp; done) | (simp [*]; done)), (by first | rfl | (simp; done) | (simp [*]; done)), H', ⟨Nat.le_refl _⟩, ⟨(qb BK282)⟩, ⟨(qs HB)⟩⟩
 case round =>
  clear H'
  try clear p2
  obtain ⟨x1_1, x4_1, rfl, rfl, HA, HK1, BK282, HB⟩ := hrel
  cases gk with
  | zero => exact absurd HA.out (by simp [fen_prefix.l0])
  | succ k1 =>
   have H := HA.out
   clear HA
   simp only [fen_prefix.l0] at H
   by_cases c4 : x1_1 > 0
   ·rw [if_pos c4] at H
    have c4b0 : decide (0 < x1_1) = true := decide_eq_true c4
    clear c4
    obtain ⟨ji5, hji5⟩ : ∃ j_ : Int, (wrap64 (x1_1 - 1)) = j_ := ⟨_, rfl⟩
    replace H : (if 0 ≤ (ji5) then (if (ji5) < (l0_0.length : Int) then ((fen_low.f x1_1).bind fun t284 => (fen_prefix.l0 k1 (wrap64 (x1_1 - t284)) (IntKind.u64.wrap (x4_1 + (rd l0_0 (ji5)))) l0_0)) else (none)) else (none)) = some r := by first | (rw [hji5] at H; exact H) | (simp only [hji5] at H ⊢; exact H)
    have hji5w : (IntKind.i64.wrap (x1_1 - 1)) = ji5 := (i64_w _).trans hji5
    by_cases c6 : 0 ≤ (ji5)
    ·rw [if_pos c6] at H
     have c6b0 : decide (0 ≤ (ji5)) = true := decide_eq_true c6
     clear c6
     by_cases c7 : (ji5) < (l0_0.length : Int)
     ·rw [if_pos c7] at H
      have c7b0 : decide ((ji5) < (l0_0.length : Int)) = true := decide_eq_true c7
      clear c7
      replace H := Option.bind_eq_some_iff.mp H
      obtain ⟨t284, A80, H⟩ := H
      try dsimp only at H
      have A8 := Aside0.mk A80
      clear A80
      have H' := Aside0.mk H
      clear H
      have hcz9_0 : wr.cell? ⟨gb282, 0, none⟩ = some (.slice A0_0 l0_0.length c0_0) := (blk_cell BK282.out 0).trans rfl
      have hfz9_0 := blk_frozen BK282.out 0
      have p283 : 0 ≤ ((ji5) : Int) := of_decide_eq_true qa
      have q283 : (ji5) < (l0_0.length : Int) := of_decide_eq_true qa
      obtain ⟨ad283, e283, hx283_0⟩ := Kd.at_int HR0_0.out (ji5) p283 q283
      cases e283
      replace hx283_0 := (HB.out.cell (World.block_lt_of_cell? w _ hx283_0)).trans hx283_0
      replace p283 := eq_true p283
      replace q283 := eq_true q283
      go_wp2_with (first | ((with_reducible refine gate_callee (f := 59) rfl ?_); refine goesL_ (some 9) rfl rfl Tryz.func59 (by kernel_rfl) rfl #[.int .i64 x1_1] rfl ql ?_; (with_reducible refine (fen_low.calls x1_1 t284 _ A8.out).mono ?_); rintro e w' ⟨rfl, ⟨nd, rfl⟩⟩; refine ⟨_, rfl, ?_⟩))
      go_roundg k1
      case measure => have := HK1.out; omega
      case rel => exact ⟨(wrap64 (x1_1 - t284)), (IntKind.u64.wrap (x4_1 + (rd l0_0 (ji5)))), (by first | rfl | (simp; done) | (simp [*]; done)), (by first | rfl | (simp; done) | (simp only [← hji5] <;> (first | rfl | simp)) | (simp [*]; done)), H', ⟨by have := HK1.out; omega⟩, ⟨(qb BK282)⟩, ⟨(qs HB)⟩⟩
     ·rw [if_neg c7] at H
      exact absurd H (by simp)
    ·rw [if_neg c6] at H
     exact absurd H (by simp)
   ·rw [if_neg c4] at H
    have c4b0 : decide (0 < x1_1) = false := decide_eq_false c4
    clear c4
    obtain rfl := Option.some.inj H
    go_wp2
    go_ret
    exact ⟨by first | rfl | (simp [errW_none, errW_some] <;> rfl) | (simp [*, errW_none, errW_some] <;> rfl), (qs HB)⟩
end Go.Proofs.YtekmngghebpciaaGreat.PW
end
