/- Proved here: LawShaSums, the statement of the row that this text's last part names, and all that it rests on: words on walks, contracts of the program's functions, plain lemmas. Conditions: none but those of the given row. (part 6 of 6) -/
import Derived.Test.YtkcdcbiobkcpmaaDoorZS4
import Derived.Test.YtkcdcbiobkcpmaaDoorRows
import Derived.Test.YtkcdcbiobkcpmaaDoorTie
import Derived.Test.YtkcdcbiobkcpmaaDoorCards
section
namespace Go.Proofs.YtkcdcbiobkcpmaaDoor.PA
open Go.RowKit Go.Proofs.YtkcdcbiobkcpmaaDoorW.PrintWords Go.Proofs.YtkcdcbiobkcpmaaDoorW.PrintLast Go.Proofs.YtkcdcbiobkcpmaaDoorW.PrintMore
attribute [local go_sem] max2_int min2_int max_two min_two max_three min_three max_four min_four
set_option linter.unusedVariables false
set_option linter.unusedSimpArgs false
def drawlotlaw05_ShaSums.f (k : Nat) (l0 : List (List Int)) : Option (Bool) := (drawlotlaw05_alive.f k).bind fun t384 => (if t384 = true then ((drawlotref05_Great.f k l0).bind fun t385 => (if t385 = true then (some true) else ((sha_Sum.f k l0).bind fun t386 => ((drawlotref05_Join.f k l0).bind fun t387 => ((drawlotref05_Sum.f k t387).bind fun t390 => (some (Ar.eqb 32 t386 t390))))))) else (none))
theorem drawlotlaw05_ShaSums.mono : ∀ a0 k, LeO (drawlotlaw05_ShaSums.f k a0) (drawlotlaw05_ShaSums.f (k + 1) a0) := by
 intro a0 k
 unfold drawlotlaw05_ShaSums.f
 repeat' first
   | (with_reducible exact drawlotlaw05_alive.mono _)
   | (with_reducible exact drawlotref05_Great.mono _ _)
   | (with_reducible exact drawlotref05_Join.mono _ _)
   | (with_reducible exact drawlotref05_Sum.mono _ _)
   | (with_reducible exact sha_Sum.mono _ _)
   | (with_reducible exact LeO.refl _)
   | (with_reducible exact LeO.none _)
   | (with_reducible refine LeO.ite ?_ ?_)
   | (with_reducible refine LeO.bind ?_ (fun _ => ?_))
   | exact drawlotlaw05_alive.mono _
   | exact drawlotref05_Great.mono _ _
   | exact drawlotref05_Join.mono _ _
   | exact drawlotref05_Sum.mono _ _
   | exact sha_Sum.mono _ _
   | exact LeO.none _
   | refine LeO.ite ?_ ?_
   | refine LeO.bind ?_ (fun _ => ?_)
set_option maxHeartbeats 8000000 in
set_option maxRecDepth 100000 in
theorem drawlotlaw05_ShaSums.calls (k : Nat) (A0 : Option Addr) (c0 : Nat) (l0 : List (List Int)) (r : Bool) (w : World) (hr0 : Kd.C (Kd.slice 5 (Kd.int .u8)) w A0 l0.length l0) (hc0 : l0.length ≤ c0) (h : drawlotlaw05_ShaSums.f k l0 = some r) :
  Calls Tryd.prog 3 #[.slice A0 l0.length c0] w fun e w' => e = .returned (.bool r) ∧ Below w.heap.size w w' := by
 have HR0 := Aside0.mk hr0
 have HC0 := Aside0.mk hc0
 clear hr0 hc0
 have HB := Aside0.mk (Below.refl w.heap.size w)
 have H : ((drawlotlaw05_alive.f k).bind fun t384 => (if t384 = true then ((drawlotref05_Great.f k l0).bind fun t385 => (if t385 = true then (some true) else ((sha_Sum.f k l0).bind fun t386 => ((drawlotref05_Join.f k l0).bind fun t387 => ((drawlotref05_Sum.f k t387).bind fun t390 => (some (Ar.eqb 32 t386 t390))))))) else (none))) = some r := h
 clear h
 replace H := Option.bind_eq_some_iff.mp H
 obtain ⟨t384, A20, H⟩ := H
 replace H : (if t384 = true then ((drawlotref05_Great.f k l0).bind fun t385 => (if t385 = true then (some true) else ((sha_Sum.f k l0).bind fun t386 => ((drawlotref05_Join.f k l0).bind fun t387 => ((drawlotref05_Sum.f k t387).bind fun t390 => (some (Ar.eqb 32 t386 t390))))))) else (none)) = some r := H
 have A2 := Aside0.mk A20
 clear A20
 by_cases c3 : t384 = true
 ·subst c3
  have H1 : ((drawlotref05_Great.f k l0).bind fun t385 => (if t385 = true then (some true) else ((sha_Sum.f k l0).bind fun t386 => ((drawlotref05_Join.f k l0).bind fun t387 => ((drawlotref05_Sum.f k t387).bind fun t390 => (some (Ar.eqb 32 t386 t390))))))) = some r := by rw [if_pos rfl] at H; exact H
  clear H
  have H := H1
  clear H1
  replace H := Option.bind_eq_some_iff.mp H
  obtain ⟨t385, A40, H⟩ := H
  replace H : (if t385 = true then (some true) else ((sha_Sum.f k l0).bind fun t386 => ((drawlotref05_Join.f k l0).bind fun t387 => ((drawlotref05_Sum.f k t387).bind fun t390 => (some (Ar.eqb 32 t386 t390)))))) = some r := H
  have A4 := Aside0.mk A40
  clear A40
  by_cases c5 : t385 = true
  ·subst c5
   have H1 : (some true) = some r := by rw [if_pos rfl] at H; exact H
   clear H
   have H := H1
   clear H1
   obtain rfl := Option.some.inj H
   go_enter Tryd.func3, Tryd.ntmps3
   go_wp2_with (first | ((with_reducible refine gate_callee (f := 7) rfl ?_); refine goesL_ (some 3) rfl rfl Tryd.func7 (by kernel_rfl) rfl #[] rfl ql ?_; (with_reducible refine (drawlotlaw05_alive.calls k  true _ A2.out).mono ?_); rintro e w6 ⟨rfl, hb⟩; refine ⟨_, rfl, ?_⟩; replace HB := Aside0.mk (below_step (qs HB) hb); (try clear hb); (try clear hb2); (try clear hk); (try clear hi)) | ((with_reducible refine gate_callee (f := 8) rfl ?_); refine goesL_ (some 6) rfl rfl Tryd.func8 (by kernel_rfl) rfl #[.slice A0 l0.length c0] rfl ql ?_; (with_reducible refine (drawlotref05_Great.calls k _ _ l0 true _ ?side1 ?side2 A4.out).mono ?_); (case side1 => repeat (first | exact (Kd.C_below HR0.out HB.out) | (with_reducible refine Kd.C_alloc ?_ _) | (with_reducible refine Kd.C_drewN ?_ _) | (with_reducible refine Kd.C_drew ?_))); (case side2 => exact HC0.out); rintro e w' ⟨rfl, ⟨nd, rfl⟩⟩; refine ⟨_, rfl, ?_⟩))
   go_ret
   exact ⟨by first | rfl | (simp [errW_none, errW_some] <;> rfl) | (simp [*, errW_none, errW_some] <;> rfl), by repeat (first | (with_reducible first | exact HB.out | apply below_alloc | apply pw_below_drewN | apply below_drew1) | exact HB.out)⟩
  ·replace c5 := Bool.eq_false_iff.mpr c5
   subst c5
   have H1 : ((sha_Sum.f k l0).bind fun t386 => ((drawlotref05_Join.f k l0).bind fun t387 => ((drawlotref05_Sum.f k t387).bind fun t390 => (some (Ar.eqb 32 t386 t390))))) = some r := by rw [if_neg (show ¬ (false = true) by decide)] at H; exact H
   clear H
   have H := H1
   clear H1
   replace H := Option.bind_eq_some_iff.mp H
   obtain ⟨t386, A70, H⟩ := H
   replace H : ((drawlotref05_Join.f k l0).bind fun t387 => ((drawlotref05_Sum.f k t387).bind fun t390 => (some (Ar.eqb 32 t386 t390)))) = some r := H
   have A7 := Aside0.mk A70
   clear A70
   replace H := Option.bind_eq_some_iff.mp H
   obtain ⟨t387, A80, H⟩ := H
   replace H : ((drawlotref05_Sum.f k t387).bind fun t390 => (some (Ar.eqb 32 t386 t390))) = some r := H
   have A8 := Aside0.mk A80
   clear A80
   replace H := Option.bind_eq_some_iff.mp H
   obtain ⟨t390, A90, H⟩ := H
   replace H : (some (Ar.eqb 32 t386 t390)) = some r := H
   have A9 := Aside0.mk A90
   clear A90
   obtain rfl := Option.some.inj H
   go_enter Tryd.func3, Tryd.ntmps3
   go_wp2_with (first | ((with_reducible refine gate_callee (f := 7) rfl ?_); refine goesL_ (some 3) rfl rfl Tryd.func7 (by kernel_rfl) rfl #[] rfl ql ?_; (with_reducible refine (drawlotlaw05_alive.calls k  true _ A2.out).mono ?_); rintro e w10 ⟨rfl, hb⟩; refine ⟨_, rfl, ?_⟩; replace HB := Aside0.mk (below_step (qs HB) hb); (try clear hb); (try clear hb2); (try clear hk); (try clear hi)) | ((with_reducible refine gate_callee (f := 8) rfl ?_); refine goesL_ (some 6) rfl rfl Tryd.func8 (by kernel_rfl) rfl #[.slice A0 l0.length c0] rfl ql ?_; (with_reducible refine (drawlotref05_Great.calls k _ _ l0 false _ ?side1 ?side2 A4.out).mono ?_); (case side1 => repeat (first | exact (Kd.C_below HR0.out HB.out) | (with_reducible refine Kd.C_alloc ?_ _) | (with_reducible refine Kd.C_drewN ?_ _) | (with_reducible refine Kd.C_drew ?_))); (case side2 => exact HC0.out); rintro e w' ⟨rfl, ⟨nd, rfl⟩⟩; refine ⟨_, rfl, ?_⟩) | ((with_reducible refine gate_callee (f := 9) rfl ?_); refine goesL_ (some 8) rfl rfl Tryd.func9 (by kernel_rfl) rfl #[.slice A0 l0.length c0] rfl ql ?_; (with_reducible refine (sha_Sum.calls k _ _ l0 t386 _ ?side1 ?side2 A7.out).mono ?_); (case side1 => repeat (first | exact (Kd.C_below HR0.out (qs HB)) | (with_reducible refine Kd.C_alloc ?_ _) | (with_reducible refine Kd.C_drewN ?_ _) | (with_reducible refine Kd.C_drew ?_))); (case side2 => exact HC0.out); rintro e w11 ⟨rfl, hb⟩; refine ⟨_, rfl, ?_⟩; replace HB := Aside0.mk (below_step (qs HB) hb); (try clear hb); (try clear hb2); (try clear hk); (try clear hi)) | ((with_reducible refine gate_callee (f := 11) rfl ?_); refine goesL_ (some 10) rfl rfl Tryd.func11 (by kernel_rfl) rfl #[.slice A0 l0.length c0] rfl ql ?_; (with_reducible refine (drawlotref05_Join.calls k _ _ l0 t387 _ ?side1 ?side2 A8.out).mono ?_); (case side1 => repeat (first | exact (Kd.C_below HR0.out HB.out) | (with_reducible refine Kd.C_alloc ?_ _) | (with_reducible refine Kd.C_drewN ?_ _) | (with_reducible refine Kd.C_drew ?_))); (case side2 => exact HC0.out); rintro e w12 ⟨v388, rfl, ho0, hb⟩; refine ⟨_, rfl, ?_⟩; have HO389 := Aside0.mk (Kd.R_lower ho0 (below_size (qs HB))); replace HB := Aside0.mk (below_step (qs HB) hb); (try clear hb); (try clear hb2); (try clear hk); (try clear hi); (try clear ho0); obtain ⟨Ao13, co13, eo13⟩ := Kd.R_slice HO389.out; subst eo13) | ((with_reducible refine gate_callee (f := 10) rfl ?_); refine goesL_ (some 11) rfl rfl Tryd.func10 (by kernel_rfl) rfl #[.slice Ao13 t387.length co13] rfl ql ?_; (with_reducible refine (drawlotref05_Sum.calls k _ _ t387 t390 _ ?side1 ?side2 A9.out).mono ?_); (case side1 => repeat (first | exact (Kd.R_reads' HO389.out).2.2 | (with_reducible refine Kd.C_alloc ?_ _) | (with_reducible refine Kd.C_drewN ?_ _) | (with_reducible refine Kd.C_drew ?_))); (case side2 => exact (Kd.R_reads' HO389.out).2.1); rintro e w14 ⟨rfl, hb⟩; refine ⟨_, rfl, ?_⟩; replace HO389 := Aside0.mk (Kd.R_below (qr HO389) hb); replace HB := Aside0.mk (below_step (qs HB) hb); (try clear hb); (try clear hb2); (try clear hk); (try clear hi)) | ((with_reducible refine gate_dst (N := 12) rfl ?_); (try (refine gate_guard (by rfl) ?_; dsimp only)); refine Ar.eq_event rfl (D := 12) rfl (T := 26) (neq := false) rfl Tryd.underlying26 (by kernel_rfl) Tryd.underlying5 (by kernel_rfl) (k := .u8) (n := 32) (l := t386) (m := t390) qg qg ?_; dsimp only [if_true, if_false, Bool.false_eq_true]))
   go_ret
   exact ⟨by first | rfl | (simp [errW_none, errW_some] <;> rfl) | (simp [*, errW_none, errW_some] <;> rfl), by repeat (first | (with_reducible first | exact HB.out | apply below_alloc | apply pw_below_drewN | apply below_drew1) | exact HB.out)⟩
 ·replace c3 := Bool.eq_false_iff.mpr c3
  subst c3
  have H1 : (none) = some r := by rw [if_neg (show ¬ (false = true) by decide)] at H; exact H
  clear H
  have H := H1
  clear H1
  exact absurd H (by simp)
def drawlotlaw05_ShaSums.Pure : Prop := ∀ (l0 : List (List Int)), (l0.length ≤ maxLen ∧ ∀ x ∈ l0, (x.length ≤ maxLen ∧ ∀ x_ ∈ x, (Lit.int .u8 x_).wf = true)) → ∃ k, drawlotlaw05_ShaSums.f k l0 = some true
theorem drawlotlaw05_ShaSums.walk (P : drawlotlaw05_ShaSums.Pure) (A0 : Option Addr) (c0 : Nat) (l0 : List (List Int)) (w : World) (w0 : Kd.C (Kd.slice 5 (Kd.int .u8)) w A0 l0.length l0 ∧ l0.length ≤ c0 ∧ (l0.length ≤ maxLen ∧ ∀ x ∈ l0, (x.length ≤ maxLen ∧ ∀ x_ ∈ x, (Lit.int .u8 x_).wf = true))) :
  Calls Tryd.prog 3 #[.slice A0 l0.length c0] w fun e w' => e = .returned (.bool true) ∧ Below w.heap.size w w' := by
 obtain ⟨k, h⟩ := P l0 w0.2.2
 refine (drawlotlaw05_ShaSums.calls k _ _ l0 true w w0.1 w0.2.1 h).mono ?_
 rintro e w' ⟨rfl, hd⟩
 exact ⟨rfl, hd⟩
end Go.Proofs.YtkcdcbiobkcpmaaDoor.PA
end
section
namespace Go.Proofs.YtkcdcbiobkcpmaaDoor.Lm
open Go.RowKit Go.Proofs.YtkcdcbiobkcpmaaDoorW.PrintWords
theorem u64w (x : Int) : IntKind.u64.wrap x = x % 18446744073709551616 := by simp [IntKind.wrap, IntKind.bits, IntKind.signed]
theorem u64w_id {x : Int} (h0 : 0 ≤ x) (h1 : x < 18446744073709551616) : IntKind.u64.wrap x = x := by rw [u64w]; omega
theorem w64_id {x : Int} (h0 : -9223372036854775808 ≤ x) (h1 : x < 9223372036854775808) : wrap64 x = x := by unfold wrap64; omega
theorem wf8 {x : Int} (h : (Lit.int .u8 x).wf = true) : 0 ≤ x ∧ x < 256 := by have := bounds_u8 h; omega
def U64 (l : List Int) : Prop := ∀ x ∈ l, 0 ≤ x ∧ x < 18446744073709551616
theorem rd_nat (l : List Int) (i : Nat) : rd l (i : Int) = l.getD i 0 := by simp [rd]
theorem rd_lt {l : List Int} {i : Int} (h0 : 0 ≤ i) (h1 : i < (l.length : Int)) : ∃ h : i.toNat < l.length, rd l i = l[i.toNat]'h := by
  have h : i.toNat < l.length := by omega
  exact ⟨h, by unfold rd; rw [List.getD_eq_getElem?_getD, List.getElem?_eq_getElem h]; rfl⟩
theorem U64.rd {l : List Int} (h : U64 l) (i : Int) : 0 ≤ rd l i ∧ rd l i < 18446744073709551616 := by
  unfold YtkcdcbiobkcpmaaDoorW.PrintWords.rd
  rw [List.getD_eq_getElem?_getD]
  by_cases hi : i.toNat < l.length
  · rw [List.getElem?_eq_getElem hi]; exact h _ (List.getElem_mem hi)
  · rw [List.getElem?_eq_none (by omega)]; simp
theorem U64.take {l : List Int} (h : U64 l) (n : Nat) : U64 (l.take n) := fun x hx => h x (List.mem_of_mem_take hx)
theorem U64.drop {l : List Int} (h : U64 l) (n : Nat) : U64 (l.drop n) := fun x hx => h x (List.mem_of_mem_drop hx)
theorem drop_step {l : List Int} {n : Nat} (h : n < l.length) : l.drop n = rd l (n : Int) :: l.drop (n + 1) := by
  rw [rd_nat, List.getD_eq_getElem?_getD, List.getElem?_eq_getElem h]
  exact List.drop_eq_getElem_cons h
theorem bs {α β : Type} (a : α) (f : α → Option β) : (some a).bind f = f a := Eq.trans (Option.bind_some a f) rfl
end Go.Proofs.YtkcdcbiobkcpmaaDoor.Lm
end
section
namespace Go.Proofs.YtkcdcbiobkcpmaaDoor.Lm
open Go.RowKit Go.Proofs.YtkcdcbiobkcpmaaDoor.PA Go.Proofs.YtkcdcbiobkcpmaaDoorW.PrintWords Go.Proofs.YtkcdcbiobkcpmaaDoorW.PrintLast
theorem alive05 (k : Nat) (hk : 300 ≤ k) : drawlotlaw05_alive.f k = some true := at_rounds (g := fun k => drawlotlaw05_alive.f k) (fun k => drawlotlaw05_alive.mono k) (k := 300) (k' := k) hk (r := true) (by decide +kernel)
end Go.Proofs.YtkcdcbiobkcpmaaDoor.Lm
end
section
namespace Go.Proofs.YtkcdcbiobkcpmaaDoor.Lm
open Go.RowKit Go.Proofs.YtkcdcbiobkcpmaaDoor.PA Go.Proofs.YtkcdcbiobkcpmaaDoorW.PrintWords Go.Proofs.YtkcdcbiobkcpmaaDoorW.PrintLast Go.Proofs.YtkcdcbiobkcpmaaDoorW.PrintMore
theorem u32w (x : Int) : IntKind.u32.wrap x = x % 4294967296 := by simp [IntKind.wrap, IntKind.bits, IntKind.signed]
theorem bits_or_comm (k : IntKind) (x y : Int) : bits .or k x y = bits .or k y x := by unfold bits; simp only [BitVec.or_comm]
theorem wraps_u32 (n : Int) (h0 : 0 ≤ n) (h1 : n < 2 ^ 32) : IntKind.u32.wrap n = n := by rw [u32w]; omega
theorem pow_pos (n : Nat) : (0 : Int) < 2 ^ n := Int.pow_pos (by decide)
theorem pow_split {m : Nat} (h : m ≤ 32) : (2 : Int) ^ m * 2 ^ (32 - m) = 4294967296 := by
  rw [← Int.pow_add, show m + (32 - m) = 32 by omega]; rfl
theorem tmod32 (n : Int) : (0 ≤ Int.tmod n 32 ∧ Int.tmod n 32 = n % 32) ∨ (Int.tmod n 32 < 0 ∧ Int.tmod n 32 = n % 32 - 32) := by
  have h := Int.tmod_eq_emod (a := n) (b := 32)
  have hr := Int.emod_nonneg n (show (32 : Int) ≠ 0 by decide)
  have hr2 := Int.emod_lt_of_pos n (show (0 : Int) < 32 by decide)
  by_cases hc : 0 ≤ n ∨ (32 : Int) ∣ n
  · rw [if_pos hc] at h
    left; omega
  · rw [if_neg hc] at h
    right
    have : Int.natAbs 32 = 32 := rfl
    rw [this] at h
    omega
def rotF (x : Int) (m : Nat) : Int := x / 2 ^ m + x % 2 ^ m * 2 ^ (32 - m)
def leftF (x : Int) (m : Nat) : Int := x * 2 ^ m % 4294967296
theorem left_mod (x : Int) {m : Nat} (h : m ≤ 32) : leftF x (32 - m) = x % 2 ^ m * 2 ^ (32 - m) := by
  unfold leftF
  rw [← pow_split h]
  have hQ := pow_pos (32 - m)
  have := Int.mul_emod_mul_of_pos (a := 2 ^ (32 - m)) x (2 ^ m) hQ
  rw [Int.mul_comm x, Int.mul_comm (2 ^ m : Int), this, Int.mul_comm]
theorem div_lt {x : Int} (h1 : x < 4294967296) {m : Nat} (h : m ≤ 32) : x / 2 ^ m < 2 ^ (32 - m) := by
  refine Int.ediv_lt_of_lt_mul (pow_pos m) ?_
  rw [Int.mul_comm, pow_split h]; exact h1
theorem rotF_range {x : Int} (h0 : 0 ≤ x) (h1 : x < 4294967296) {m : Nat} (h : m ≤ 32) : 0 ≤ rotF x m ∧ rotF x m < 4294967296 := by
  unfold rotF
  have hP := pow_pos m
  have hQ := pow_pos (32 - m)
  have hd := div_lt h1 h
  have hd0 : 0 ≤ x / 2 ^ m := Int.ediv_nonneg h0 (Int.le_of_lt hP)
  have hm0 := Int.emod_nonneg x (Int.ne_of_gt hP)
  have hm1 := Int.emod_lt_of_pos x hP
  have hs := pow_split h
  have h3 : x % 2 ^ m * 2 ^ (32 - m) ≤ (2 ^ m - 1) * 2 ^ (32 - m) := Int.mul_le_mul_of_nonneg_right (by omega) (Int.le_of_lt hQ)
  rw [Int.sub_mul, hs, Int.one_mul] at h3
  have h4 : 0 ≤ x % 2 ^ m * 2 ^ (32 - m) := Int.mul_nonneg hm0 (Int.le_of_lt hQ)
  omega
theorem or_rot {x : Int} (h0 : 0 ≤ x) (h1 : x < 4294967296) {m : Nat} (h : m ≤ 32) : bits .or .u32 (x / 2 ^ m) (leftF x (32 - m)) = rotF x m := by
  have hP := pow_pos m
  have hQ := pow_pos (32 - m)
  have hd := div_lt h1 h
  have hd0 : 0 ≤ x / 2 ^ m := Int.ediv_nonneg h0 (Int.le_of_lt hP)
  have hl0 : 0 ≤ leftF x (32 - m) := Int.emod_nonneg _ (by decide)
  have hl1 : leftF x (32 - m) < 4294967296 := Int.emod_lt_of_pos _ (by decide)
  have hx1 : x / 2 ^ m < 2 ^ 32 := by
    have : x / 2 ^ m ≤ x := Int.ediv_le_self _ h0
    have : (2 : Int) ^ 32 = 4294967296 := rfl
    omega
  rw [bits_or_comm, bits_join .u32 32 (by decide) wraps_u32 (32 - m) _ _ hl0 (by rw [left_mod x h]; exact Int.mul_emod_left _ _) hl1 hd0 hd hx1, left_mod x h]
  unfold rotF
  omega
theorem rot_one {x : Int} {m : Nat} (h : m < 32) : rotF x m / 2 + rotF x m % 2 * 2147483648 = rotF x (m + 1) := by
  unfold rotF
  have hP := pow_pos m
  have e1 : (2 : Int) ^ (32 - m) = 2 * 2 ^ (31 - m) := by rw [show 32 - m = (31 - m) + 1 by omega, Int.pow_succ, Int.mul_comm]
  have e2 : (2 : Int) ^ (m + 1) = 2 ^ m * 2 := Int.pow_succ 2 m
  have e3 : (2 : Int) ^ m * 2 ^ (31 - m) = 2147483648 := by rw [← Int.pow_add, show m + (31 - m) = 31 by omega]; rfl
  rw [e1, e2, show 32 - (m + 1) = 31 - m by omega]
  generalize (2 : Int) ^ m = P at *
  generalize (2 : Int) ^ (31 - m) = Q at *
  have hd : x / (P * 2) = x / P / 2 := (Int.ediv_ediv_of_nonneg (Int.le_of_lt hP)).symm
  have hmd : x % (P * 2) = x % P + P * (x / P % 2) := by
    have a1 := Int.emod_add_mul_ediv x P
    have a2 := Int.emod_add_mul_ediv x (P * 2)
    have a3 := Int.emod_add_mul_ediv (x / P) 2
    rw [hd, Int.mul_assoc] at a2
    have a4 : P * (x / P) = P * (x / P % 2) + P * (2 * (x / P / 2)) := by rw [← Int.mul_add, a3]
    omega
  rw [hd, hmd]
  have b1 : x % P * (2 * Q) = 2 * (x % P * Q) := by rw [← Int.mul_assoc, Int.mul_comm (x % P) 2, Int.mul_assoc]
  have b2 : (x % P + P * (x / P % 2)) * Q = x % P * Q + 2147483648 * (x / P % 2) := by
    rw [Int.add_mul, Int.mul_assoc P, Int.mul_comm (x / P % 2) Q, ← Int.mul_assoc P, e3]
  rw [b1, b2]
  omega
theorem rotF_zero (x : Int) : rotF x 0 = x := by
  unfold rotF
  simp
theorem right_ok {x n : Int} (hn0 : -9223372036854775808 ≤ n) (hn1 : n < 9223372036854775808) : word_Right.f x n = some (x / 2 ^ (min n.toNat 32)) := by
  unfold word_Right.f
  have e : IntKind.u64.wrap (mx n 0) = (n.toNat : Int) := by rw [u64w]; unfold mx; split <;> omega
  rw [e, if_pos (by omega)]
  rfl
theorem rotate_ok {x n : Int} (h0 : 0 ≤ x) (h1 : x < 4294967296) : word_Rotate.f x n = some (rotF x (n % 32).toNat) := by
  unfold word_Rotate.f
  have e : Int.tmod (IntKind.u64.wrap n) 32 = n % 32 := by
    rw [u64w, Int.tmod_eq_emod_of_nonneg (by omega)]; omega
  have e2 : IntKind.u64.wrap (32 - n % 32) = 32 - n % 32 := by rw [u64w]; omega
  rw [e, e2, if_pos (by omega), if_pos (by omega)]
  have hm : (n % 32).toNat ≤ 32 := by omega
  have e3 : shr .u32 x (n % 32) = x / 2 ^ (n % 32).toNat := by
    unfold shr; rw [Nat.min_eq_left (by exact hm)]
  have e4 : shl .u32 x (32 - n % 32) = leftF x (32 - (n % 32).toNat) := by
    unfold shl leftF; rw [u32w, show (32 - n % 32).toNat = 32 - (n % 32).toNat by omega, Nat.min_eq_left (show 32 - (n % 32).toNat ≤ IntKind.u32.bits by show _ ≤ 32; omega)]
  rw [e3, e4]
  exact congrArg some (or_rot h0 h1 hm)
theorem r01right_loop (n : Int) (hn1 : n < 9223372036854775808) : ∀ (d k : Nat) (x i : Int), d < k → 0 ≤ i → n = i + d → 0 ≤ x → x < 4294967296 → drawlotref01_Right.l0 k x n i = some (x / 2 ^ d)
  | 0, k, x, i, hk, hi, hd, h0, h1 => by
    obtain ⟨k, rfl⟩ : ∃ m, k = m + 1 := ⟨k - 1, by omega⟩
    simp only [drawlotref01_Right.l0]
    rw [if_neg (by omega)]
    simp
  | d + 1, k, x, i, hk, hi, hd, h0, h1 => by
    obtain ⟨k, rfl⟩ : ∃ m, k = m + 1 := ⟨k - 1, by omega⟩
    simp only [drawlotref01_Right.l0]
    have e : Int.tdiv x 2 % 4294967296 = x / 2 := by rw [Int.tdiv_eq_ediv_of_nonneg h0]; omega
    rw [if_pos (by omega), w64_id (x := i + 1) (by omega) (by omega), e, r01right_loop n hn1 d k _ (i + 1) (by omega) (by omega) (by omega) (by omega) (by omega)]
    rw [Int.ediv_ediv_of_nonneg (by decide), Int.pow_succ, Int.mul_comm]
theorem r01right_ok {k : Nat} (hk : 33 < k) {x n : Int} (h0 : 0 ≤ x) (h1 : x < 4294967296) (hn0 : -9223372036854775808 ≤ n) (hn1 : n < 9223372036854775808) : drawlotref01_Right.f k x n = some (x / 2 ^ (min n.toNat 32)) := by
  unfold drawlotref01_Right.f
  by_cases h : n > 31
  · rw [if_pos h, Nat.min_eq_right (by omega), show (2 : Int) ^ 32 = 4294967296 from rfl, Int.ediv_eq_zero_of_lt h0 h1]
  · rw [if_neg h, Nat.min_eq_left (by omega)]
    by_cases hn : 0 ≤ n
    · exact r01right_loop n hn1 n.toNat k x 0 (by omega) (by omega) (by omega) h0 h1
    · obtain ⟨k, rfl⟩ : ∃ m, k = m + 1 := ⟨k - 1, by omega⟩
      simp only [drawlotref01_Right.l0]
      rw [if_neg (by omega), show n.toNat = 0 by omega]
      simp
theorem r01rotate_loop (x : Int) (h0 : 0 ≤ x) (h1 : x < 4294967296) (n : Nat) (hn : n < 32) : ∀ (d k i : Nat), d < k → n = i + d → drawlotref01_Rotate.l0 k (rotF x i) n i = some (rotF x n)
  | 0, k, i, hk, hd => by
    obtain ⟨k, rfl⟩ : ∃ m, k = m + 1 := ⟨k - 1, by omega⟩
    simp only [drawlotref01_Rotate.l0]
    rw [if_neg (by omega), show i = n by omega]
  | d + 1, k, i, hk, hd => by
    obtain ⟨k, rfl⟩ : ∃ m, k = m + 1 := ⟨k - 1, by omega⟩
    simp only [drawlotref01_Rotate.l0]
    obtain ⟨a0, a1⟩ := rotF_range h0 h1 (m := i) (by omega)
    obtain ⟨c0, c1⟩ := rotF_range h0 h1 (m := i + 1) (by omega)
    have e := rot_one (x := x) (m := i) (by omega)
    have e2 : (Int.tdiv (rotF x i) 2 % 4294967296 + Int.tmod (rotF x i) 2 * 2147483648 % 4294967296) % 4294967296 = rotF x (i + 1) := by
      rw [Int.tdiv_eq_ediv_of_nonneg a0, Int.tmod_eq_emod_of_nonneg a0]; omega
    rw [if_pos (by omega), e2, w64_id (by omega) (by omega)]
    exact r01rotate_loop x h0 h1 n hn d k (i + 1) (by omega) (by omega)
theorem r01rotate_ok {k : Nat} (hk : 40 < k) {x n : Int} (h0 : 0 ≤ x) (h1 : x < 4294967296) (_hn0 : -9223372036854775808 ≤ n) (_hn1 : n < 9223372036854775808) : drawlotref01_Rotate.f k x n = some (rotF x (n % 32).toNat) := by
  unfold drawlotref01_Rotate.f
  have hl : ∀ (m : Int), m = n % 32 → drawlotref01_Rotate.j0 k x m = some (rotF x (n % 32).toNat) := by
    rintro m rfl
    obtain ⟨k, rfl⟩ : ∃ m, k = m + 1 := ⟨k - 1, by omega⟩
    simp only [drawlotref01_Rotate.j0]
    have := r01rotate_loop x h0 h1 (n % 32).toNat (by omega) (n % 32).toNat k 0 (by omega) (by omega)
    rw [rotF_zero, show (((n % 32).toNat : Nat) : Int) = n % 32 by omega] at this
    exact this
  have ht := tmod32 n
  by_cases h : Int.tmod n 32 < 0
  · rw [if_pos h]
    refine hl _ ?_
    rw [w64_id (by omega) (by omega)]
    omega
  · rw [if_neg h]
    refine hl _ ?_
    omega
end Go.Proofs.YtkcdcbiobkcpmaaDoor.Lm
end
section
namespace Go.Proofs.YtkcdcbiobkcpmaaDoor.Lm
open Go.RowKit Go.Proofs.YtkcdcbiobkcpmaaDoor.PA Go.Proofs.YtkcdcbiobkcpmaaDoorW.PrintWords Go.Proofs.YtkcdcbiobkcpmaaDoorW.PrintLast Go.Proofs.YtkcdcbiobkcpmaaDoorW.PrintMore
theorem get32_step (k : Nat) (acc : Int) (l : List Int) (i : Nat) (hi : i < 4) (ha0 : 0 ≤ acc) (ha1 : acc < 256 ^ i) (hb : 0 ≤ Ar.get 4 l i ∧ Ar.get 4 l i < 256) : word_Get32.l0 (k + 1) acc l i = word_Get32.l0 k (acc * 256 + Ar.get 4 l i) l ((i + 1 : Nat) : Int) := by
  have e4 : wrap64 ((i : Int) + 1) = ((i + 1 : Nat) : Int) := by rw [w64_id (by omega) (by omega)]; omega
  have hlt : acc < 16777216 := by
    rcases (show i = 0 ∨ i = 1 ∨ i = 2 ∨ i = 3 by omega) with rfl | rfl | rfl | rfl <;> simp at ha1 <;> omega
  have e1 : acc * 256 % 4294967296 = acc * 256 := by omega
  have e2 : Ar.get 4 l i % 4294967296 = Ar.get 4 l i := by omega
  have e3 : bits .or .u32 (acc * 256) (Ar.get 4 l i) = acc * 256 + Ar.get 4 l i :=
    bits_join .u32 32 (by decide) wraps_u32 8 _ _ (by omega) (by show acc * 256 % 256 = 0; omega) (by have : (2 : Int) ^ 32 = 4294967296 := rfl; omega) hb.1 hb.2 (by have : (2 : Int) ^ 32 = 4294967296 := rfl; omega)
  rw [word_Get32.l0, if_pos (by omega), if_pos (by omega), e1, e2, e3, e4]
theorem get32_ok (k : Nat) (hk : 5 ≤ k) (b0 b1 b2 b3 : Int) (h : ∀ b ∈ [b0, b1, b2, b3], 0 ≤ b ∧ b < 256) : word_Get32.f k [b0, b1, b2, b3] = some (((b0 * 256 + b1) * 256 + b2) * 256 + b3) := by
  obtain ⟨k, rfl⟩ : ∃ m, k = m + 5 := ⟨k - 5, by omega⟩
  simp only [List.mem_cons, List.not_mem_nil, or_false, forall_eq_or_imp, forall_eq] at h
  obtain ⟨h0, h1, h2, h3⟩ := h
  unfold word_Get32.f
  have s := fun k acc i hi => get32_step k acc [b0, b1, b2, b3] i hi
  rw [show ((0 : Int)) = ((0 : Nat) : Int) from rfl]
  rw [s _ _ 0 (by decide) (by decide) (by decide) h0]
  have z : ((0 : Nat) : Int) * 256 + Ar.get 4 [b0, b1, b2, b3] (0 : Nat) = b0 := by show (0 : Int) * 256 + b0 = b0; omega
  rw [z]
  rw [s _ _ 1 (by decide) (by omega) (by show b0 < 256; omega) h1]
  show word_Get32.l0 _ (b0 * 256 + b1) _ _ = _
  rw [s _ _ 2 (by decide) (by omega) (by show _ < (65536 : Int); omega) h2]
  show word_Get32.l0 _ ((b0 * 256 + b1) * 256 + b2) _ _ = _
  rw [s _ _ 3 (by decide) (by omega) (by show _ < (16777216 : Int); omega) h3]
  show word_Get32.l0 _ (((b0 * 256 + b1) * 256 + b2) * 256 + b3) _ _ = _
  rw [word_Get32.l0, if_neg (by decide)]
end Go.Proofs.YtkcdcbiobkcpmaaDoor.Lm
end
section
namespace Go.Proofs.YtkcdcbiobkcpmaaDoor.Lm
open Go.RowKit Go.Proofs.YtkcdcbiobkcpmaaDoorW.PrintWords
theorem rd_getD (l : List Int) (j : Int) : rd l j = l.getD j.toNat 0 := rfl
theorem get_set {n : Nat} {l : List Int} {i j v : Int} (h0 : 0 ≤ i) (h1 : i < n) (hj : 0 ≤ j) : Ar.get n (Ar.set n l i v) j = if j = i then v else Ar.get n l j := by
  have hl : (Ar.fit n l).length = n := Ar.fit_len n l
  have e : Ar.fit n (Ar.set n l i v) = Ar.set n l i v := Ar.fit_id (by simp [Ar.set, Ar.fit_len])
  unfold Ar.get
  rw [e]
  unfold Ar.set
  rw [rd_getD, rd_getD, List.getD_eq_getElem?_getD, List.getD_eq_getElem?_getD]
  by_cases h : j = i
  · subst h
    rw [if_pos rfl, List.getElem?_set_self (by omega)]
    rfl
  · rw [if_neg h, List.getElem?_set_ne (by omega)]
theorem get_zero (n : Nat) (j : Int) : Ar.get n (List.replicate n 0) j = 0 := by
  unfold Ar.get
  rw [Ar.fit_id (by simp), rd_getD, List.getD_eq_getElem?_getD]
  by_cases h : j.toNat < n
  · rw [List.getElem?_replicate_of_lt h]; rfl
  · rw [List.getElem?_eq_none (by simp; omega)]; rfl
theorem eqb_self (n : Nat) (a : List Int) : Ar.eqb n a a = true := by unfold Ar.eqb; exact beq_self_eq_true _
theorem part4 {m o : Nat} (l : List Int) (h : o + 4 ≤ m) : Ar.part m l o 4 = [Ar.get m l o, Ar.get m l (o + 1), Ar.get m l (o + 2), Ar.get m l (o + 3)] := by
  have hl : (Ar.fit m l).length = m := Ar.fit_len m l
  unfold Ar.part Ar.get
  rw [drop_step (n := o) (by omega), drop_step (n := o + 1) (by omega), drop_step (n := o + 2) (by omega), drop_step (n := o + 3) (by omega)]
  simp only [List.take_succ_cons, List.take_zero]
  rfl
def InR (n : Nat) (b : Int) (l : List Int) : Prop := ∀ j, 0 ≤ Ar.get n l j ∧ Ar.get n l j < b
theorem get_neg {n : Nat} (l : List Int) {j : Int} (h : j ≤ 0) : Ar.get n l j = Ar.get n l 0 := by
  unfold Ar.get
  rw [rd_getD, rd_getD, show j.toNat = (0 : Int).toNat by omega]
theorem InR.zero (n : Nat) {b : Int} (hb : 0 < b) : InR n b (List.replicate n 0) := fun j => by rw [get_zero]; omega
theorem InR.of_mem {n : Nat} {b : Int} {l : List Int} (hb : 0 < b) (hl : l.length = n) (h : ∀ x ∈ l, 0 ≤ x ∧ x < b) : InR n b l := fun j => by
  unfold Ar.get
  rw [Ar.fit_id hl, rd_getD, List.getD_eq_getElem?_getD]
  by_cases hj : j.toNat < l.length
  · rw [List.getElem?_eq_getElem hj]; exact h _ (List.getElem_mem hj)
  · rw [List.getElem?_eq_none (by omega)]; exact ⟨Int.le_refl _, hb⟩
theorem InR.set {n : Nat} {b : Int} {l : List Int} {i v : Int} (h : InR n b l) (h0 : 0 ≤ i) (h1 : i < n) (hv : 0 ≤ v ∧ v < b) : InR n b (Ar.set n l i v) := fun j => by
  by_cases hj : 0 ≤ j
  · rw [get_set h0 h1 hj]
    split
    · exact hv
    · exact h j
  · rw [get_neg _ (by omega), get_set h0 h1 (by omega)]
    split
    · exact hv
    · exact h 0
theorem get_putAll {n : Nat} : ∀ (vs l : List Int) (o : Nat) (j : Int), 0 ≤ j → o + vs.length ≤ n → Ar.get n (Ar.putAll n l o vs) j = if (o : Int) ≤ j ∧ j < o + vs.length then rd vs (j - o) else Ar.get n l j
  | [], l, o, j, _, _ => by
    rw [if_neg (by simp only [List.length_nil]; omega)]
    rfl
  | v :: r, l, o, j, hj, hn => by
    simp only [List.length_cons] at hn ⊢
    rw [Ar.putAll, get_putAll r _ (o + 1) j hj (by omega), get_set (by omega) (by omega) hj]
    by_cases h1 : ((o + 1 : Nat) : Int) ≤ j ∧ j < ((o + 1 : Nat) : Int) + (r.length : Int)
    · rw [if_pos h1, if_pos (by omega)]
      rw [rd_getD, rd_getD, show (j - (o : Int)).toNat = (j - ((o + 1 : Nat) : Int)).toNat + 1 by omega]
      rfl
    · rw [if_neg h1]
      by_cases h2 : j = o
      · subst h2
        rw [if_pos rfl, if_pos (by omega), rd_getD, show ((o : Int) - (o : Int)).toNat = 0 by omega]
        rfl
      · rw [if_neg h2, if_neg (by omega)]
theorem InR.putAll {n : Nat} {b : Int} {l vs : List Int} {o : Nat} (h : InR n b l) (hn : o + vs.length ≤ n) (hv : ∀ x ∈ vs, 0 ≤ x ∧ x < b) : InR n b (Ar.putAll n l o vs) := by
  have key : ∀ j : Int, 0 ≤ j → 0 ≤ Ar.get n (Ar.putAll n l o vs) j ∧ Ar.get n (Ar.putAll n l o vs) j < b := fun j hj => by
    rw [get_putAll vs l o j hj hn]
    split
    · rename_i hc
      obtain ⟨hlt, e⟩ := rd_lt (l := vs) (i := j - o) (by omega) (by omega)
      rw [e]
      exact hv _ (List.getElem_mem _)
    · exact h j
  intro j
  by_cases hj : 0 ≤ j
  · exact key j hj
  · rw [get_neg _ (by omega)]; exact key 0 (by omega)
end Go.Proofs.YtkcdcbiobkcpmaaDoor.Lm
end
section
namespace Go.Proofs.YtkcdcbiobkcpmaaDoor.Lm
open Go.RowKit Go.Proofs.YtkcdcbiobkcpmaaDoor.PA Go.Proofs.YtkcdcbiobkcpmaaDoorW.PrintWords Go.Proofs.YtkcdcbiobkcpmaaDoorW.PrintLast Go.Proofs.YtkcdcbiobkcpmaaDoorW.PrintMore
def sig (x : Int) (a b c : Nat) : Int := Go.bits .xor .u32 (Go.bits .xor .u32 (rotF x a) (rotF x b)) (x / 2 ^ c)
theorem bits_range (op : BinOp) (x y : Int) : 0 ≤ Go.bits op .u32 x y ∧ Go.bits op .u32 x y < 4294967296 := by
  unfold Go.bits
  simp only [u32w]
  omega
theorem First_ok {x : Int} (h0 : 0 ≤ x) (h1 : x < 4294967296) : plan_First.f x = some (sig x 7 18 3) := by
  unfold plan_First.f plan_mix.f
  rw [rotate_ok h0 h1, bs, rotate_ok h0 h1, bs, right_ok (by omega) (by omega), bs, bs]
  rfl
theorem Second_ok {x : Int} (h0 : 0 ≤ x) (h1 : x < 4294967296) : plan_Second.f x = some (sig x 17 19 10) := by
  unfold plan_Second.f plan_mix.f
  rw [rotate_ok h0 h1, bs, rotate_ok h0 h1, bs, right_ok (by omega) (by omega), bs, bs]
  rfl
def word4 (b : List Int) (i : Int) : Int := ((Ar.get 64 b (4 * i) * 256 + Ar.get 64 b (4 * i + 1)) * 256 + Ar.get 64 b (4 * i + 2)) * 256 + Ar.get 64 b (4 * i + 3)
theorem word4_range {b : List Int} (hb : InR 64 256 b) (i : Int) : 0 ≤ word4 b i ∧ word4 b i < 4294967296 := by
  have h0 := hb (4 * i); have h1 := hb (4 * i + 1); have h2 := hb (4 * i + 2); have h3 := hb (4 * i + 3)
  unfold word4
  omega
def next (w : List Int) (i : Int) : Int := (((sig (Ar.get 64 w (i - 2)) 17 19 10 + Ar.get 64 w (i - 7)) % 4294967296 + sig (Ar.get 64 w (i - 15)) 7 18 3) % 4294967296 + Ar.get 64 w (i - 16)) % 4294967296
def Good (b w : List Int) (j : Int) : Prop := (j < 16 → Ar.get 64 w j = word4 b j) ∧ (16 ≤ j → Ar.get 64 w j = next w j)
theorem next_keep {w : List Int} {i j v : Int} (h0 : 0 ≤ i) (h1 : i < 64) (hj : 16 ≤ j) (hji : j ≤ i) : next (Ar.set 64 w i v) j = next w j := by
  unfold next
  rw [get_set h0 h1 (by omega), get_set h0 h1 (by omega), get_set h0 h1 (by omega), get_set h0 h1 (by omega), if_neg (by omega), if_neg (by omega), if_neg (by omega), if_neg (by omega)]
theorem Good.keep {b w : List Int} {i j v : Int} (h0 : 0 ≤ i) (h1 : i < 64) (hj : 0 ≤ j) (hji : j < i) (h : Good b w j) : Good b (Ar.set 64 w i v) j := by
  refine ⟨fun hc => ?_, fun hc => ?_⟩
  · rw [get_set h0 h1 hj, if_neg (by omega)]; exact h.1 hc
  · rw [get_set h0 h1 hj, if_neg (by omega), next_keep h0 h1 hc (by omega)]; exact h.2 hc
theorem of_loop (b : List Int) (hb : InR 64 256 b) : ∀ (d k i : Nat) (w : List Int), i + d = 64 → d + 10 ≤ k → InR 64 4294967296 w → (∀ j : Int, 0 ≤ j → j < i → Good b w j) →
    ∃ w', plan_Of.l0 k i b w = some w' ∧ InR 64 4294967296 w' ∧ ∀ j : Int, 0 ≤ j → j < 64 → Good b w' j
  | 0, k, i, w, hi, hk, hw, hg => by
    obtain ⟨k, rfl⟩ : ∃ m, k = m + 1 := ⟨k - 1, by omega⟩
    refine ⟨w, ?_, hw, fun j h0 h1 => hg j h0 (by omega)⟩
    simp only [plan_Of.l0]
    rw [if_neg (by omega)]
  | d + 1, k, i, w, hi, hk, hw, hg => by
    obtain ⟨k, rfl⟩ : ∃ m, k = m + 1 := ⟨k - 1, by omega⟩
    have e4 : wrap64 (4 * (i : Int)) = 4 * i := w64_id (by omega) (by omega)
    have e1 : wrap64 ((i : Int) + 1) = ((i + 1 : Nat) : Int) := by rw [w64_id (by omega) (by omega)]; omega
    by_cases hc : i < 16
    · have e44 : wrap64 (4 * (i : Int) + 4) = 4 * i + 4 := w64_id (by omega) (by omega)
      have hp : Ar.part 64 b (4 * (i : Int)).toNat 4 = [Ar.get 64 b (4 * (i : Int)), Ar.get 64 b (4 * (i : Int) + 1), Ar.get 64 b (4 * (i : Int) + 2), Ar.get 64 b (4 * (i : Int) + 3)] := by
        rw [part4 b (o := (4 * (i : Int)).toNat) (by omega), show ((4 * (i : Int)).toNat : Int) = 4 * i by omega]
      have h32 : word_Get32.f k (Ar.part 64 b (4 * (i : Int)).toNat 4) = some (word4 b i) := by
        rw [hp, get32_ok k (by omega) _ _ _ _ (by simp only [List.mem_cons, List.not_mem_nil, or_false, forall_eq_or_imp, forall_eq]; exact ⟨hb _, hb _, hb _, hb _⟩)]
        rfl
      obtain ⟨w', h', hr, hg'⟩ := of_loop b hb d k (i + 1) (Ar.set 64 w i (word4 b i)) (by omega) (by omega) (hw.set (by omega) (by omega) (word4_range hb i)) (fun j h0 h1 => by
        by_cases hji : j = i
        · subst hji
          refine ⟨fun _ => ?_, fun h => by omega⟩
          rw [get_set (by omega) (by omega) (by omega), if_pos rfl]
        · exact (hg j h0 (by omega)).keep (by omega) (by omega) h0 (by omega))
      refine ⟨w', ?_, hr, hg'⟩
      simp only [plan_Of.l0]
      rw [if_pos (by omega), e4, if_pos (by omega), if_pos (by omega), e44, if_pos (by omega), if_pos (by omega), if_pos (by omega), h32, bs, if_pos (by omega), e1]
      exact h'
    · have e2 : wrap64 ((i : Int) - 2) = i - 2 := w64_id (by omega) (by omega)
      have e7 : wrap64 ((i : Int) - 7) = i - 7 := w64_id (by omega) (by omega)
      have e15 : wrap64 ((i : Int) - 15) = i - 15 := w64_id (by omega) (by omega)
      have e16 : wrap64 ((i : Int) - 16) = i - 16 := w64_id (by omega) (by omega)
      have hn : 0 ≤ next w i ∧ next w i < 4294967296 := by unfold next; omega
      obtain ⟨w', h', hr, hg'⟩ := of_loop b hb d k (i + 1) (Ar.set 64 w i (next w i)) (by omega) (by omega) (hw.set (by omega) (by omega) hn) (fun j h0 h1 => by
        by_cases hji : j = i
        · subst hji
          refine ⟨fun h => by omega, fun _ => ?_⟩
          rw [get_set (by omega) (by omega) (by omega), if_pos rfl, next_keep (by omega) (by omega) (by omega) (by omega)]
        · exact (hg j h0 (by omega)).keep (by omega) (by omega) h0 (by omega))
      refine ⟨w', ?_, hr, hg'⟩
      simp only [plan_Of.l0]
      rw [if_pos (by omega), e4, if_neg (by omega), e2, if_pos (by omega), if_pos (by omega), Second_ok (hw _).1 (hw _).2, bs, e7, if_pos (by omega), if_pos (by omega), e15, if_pos (by omega), if_pos (by omega), First_ok (hw _).1 (hw _).2, bs, e16, if_pos (by omega), if_pos (by omega), if_pos (by omega), e1]
      exact h'
theorem Of_ok {b : List Int} (hb : InR 64 256 b) {k : Nat} (hk : 80 ≤ k) : ∃ w, plan_Of.f k b = some w ∧ InR 64 4294967296 w ∧ ∀ j : Int, 0 ≤ j → j < 64 → Good b w j := by
  unfold plan_Of.f
  exact of_loop b hb 64 k 0 _ (by omega) (by omega) (InR.zero 64 (by decide)) (fun j h0 h1 => by omega)
end Go.Proofs.YtkcdcbiobkcpmaaDoor.Lm
end
section
namespace Go.Proofs.YtkcdcbiobkcpmaaDoor.Lm
open Go.RowKit Go.Proofs.YtkcdcbiobkcpmaaDoor.PA Go.Proofs.YtkcdcbiobkcpmaaDoorW.PrintWords Go.Proofs.YtkcdcbiobkcpmaaDoorW.PrintLast Go.Proofs.YtkcdcbiobkcpmaaDoorW.PrintMore
theorem bv_wrap (z : BitVec IntKind.u32.bits) : BitVec.ofInt IntKind.u32.bits (IntKind.u32.wrap (z.toNat : Int)) = z := by
  have h : (z.toNat : Int) < 4294967296 := by have := z.isLt; have e : 2 ^ IntKind.u32.bits = 4294967296 := rfl; omega
  rw [u32w, Int.emod_eq_of_lt (by omega) h, BitVec.ofInt_natCast, BitVec.ofNat_toNat, BitVec.setWidth_eq]
theorem bv_and (x y : Int) : BitVec.ofInt IntKind.u32.bits (Go.bits .and .u32 x y) = BitVec.ofInt IntKind.u32.bits x &&& BitVec.ofInt IntKind.u32.bits y := bv_wrap _
theorem bv_or (x y : Int) : BitVec.ofInt IntKind.u32.bits (Go.bits .or .u32 x y) = BitVec.ofInt IntKind.u32.bits x ||| BitVec.ofInt IntKind.u32.bits y := bv_wrap _
theorem bv_xor (x y : Int) : BitVec.ofInt IntKind.u32.bits (Go.bits .xor .u32 x y) = BitVec.ofInt IntKind.u32.bits x ^^^ BitVec.ofInt IntKind.u32.bits y := bv_wrap _
theorem xor_or {x y : Int} (h : BitVec.ofInt IntKind.u32.bits x ^^^ BitVec.ofInt IntKind.u32.bits y = BitVec.ofInt IntKind.u32.bits x ||| BitVec.ofInt IntKind.u32.bits y) : Go.bits .xor .u32 x y = Go.bits .or .u32 x y := by
  unfold Go.bits
  simp only [h]
theorem not_sub {e : Int} (h0 : 0 ≤ e) (h1 : e < 4294967296) : Go.bits .xor .u32 4294967295 e = (4294967295 - e) % 4294967296 := by
  have ha : BitVec.ofInt IntKind.u32.bits 4294967295 = BitVec.allOnes IntKind.u32.bits := by decide
  unfold Go.bits
  simp only [ha, BitVec.allOnes_xor, BitVec.toNat_not, u32w]
  have e2 : (BitVec.ofInt IntKind.u32.bits e).toNat = e.toNat := by
    rw [BitVec.toNat_ofInt]
    have : ((2 ^ IntKind.u32.bits : Nat) : Int) = 4294967296 := rfl
    rw [this, Int.emod_eq_of_lt h0 h1]
  rw [e2]
  have e3 : 2 ^ IntKind.u32.bits = 4294967296 := rfl
  omega
def rot3 (x : Int) (a b c : Nat) : Int := Go.bits .xor .u32 (Go.bits .xor .u32 (rotF x a) (rotF x b)) (rotF x c)
def chF (e f g : Int) : Int := Go.bits .or .u32 (Go.bits .and .u32 e f) (Go.bits .and .u32 ((4294967295 - e) % 4294967296) g)
def majF (a b c : Int) : Int := Go.bits .or .u32 (Go.bits .or .u32 (Go.bits .and .u32 a b) (Go.bits .and .u32 a c)) (Go.bits .and .u32 b c)
theorem ch_eq {e f g : Int} (h0 : 0 ≤ e) (h1 : e < 4294967296) : Go.bits .xor .u32 (Go.bits .and .u32 e f) (Go.bits .and .u32 (Go.bits .xor .u32 4294967295 e) g) = chF e f g := by
  unfold chF
  rw [← not_sub h0 h1]
  refine xor_or ?_
  simp only [bv_and, bv_xor]
  have ha : BitVec.ofInt IntKind.u32.bits 4294967295 = BitVec.allOnes IntKind.u32.bits := by decide
  rw [ha, BitVec.allOnes_xor]
  refine BitVec.eq_of_getLsbD_eq fun i hi => ?_
  simp only [BitVec.getLsbD_xor, BitVec.getLsbD_or, BitVec.getLsbD_and, BitVec.getLsbD_not, hi, decide_true, Bool.true_and]
  cases (BitVec.ofInt IntKind.u32.bits e).getLsbD i <;> cases (BitVec.ofInt IntKind.u32.bits f).getLsbD i <;> cases (BitVec.ofInt IntKind.u32.bits g).getLsbD i <;> rfl
theorem maj_eq (a b c : Int) : Go.bits .xor .u32 (Go.bits .xor .u32 (Go.bits .and .u32 a b) (Go.bits .and .u32 a c)) (Go.bits .and .u32 b c) = majF a b c := by
  have h : BitVec.ofInt IntKind.u32.bits (Go.bits .xor .u32 (Go.bits .xor .u32 (Go.bits .and .u32 a b) (Go.bits .and .u32 a c)) (Go.bits .and .u32 b c)) = BitVec.ofInt IntKind.u32.bits (majF a b c) := by
    unfold majF
    simp only [bv_and, bv_xor, bv_or]
    refine BitVec.eq_of_getLsbD_eq fun i hi => ?_
    simp only [BitVec.getLsbD_xor, BitVec.getLsbD_or, BitVec.getLsbD_and]
    cases (BitVec.ofInt IntKind.u32.bits a).getLsbD i <;> cases (BitVec.ofInt IntKind.u32.bits b).getLsbD i <;> cases (BitVec.ofInt IntKind.u32.bits c).getLsbD i <;> rfl
  have h2 := congrArg BitVec.toNat h
  rw [BitVec.toNat_ofInt, BitVec.toNat_ofInt] at h2
  have e3 : ((2 ^ IntKind.u32.bits : Nat) : Int) = 4294967296 := rfl
  rw [e3] at h2
  have r1 := bits_range .xor (Go.bits .xor .u32 (Go.bits .and .u32 a b) (Go.bits .and .u32 a c)) (Go.bits .and .u32 b c)
  have r2 : 0 ≤ majF a b c ∧ majF a b c < 4294967296 := bits_range _ _ _
  rw [Int.emod_eq_of_lt r1.1 r1.2, Int.emod_eq_of_lt r2.1 r2.2] at h2
  omega
def lowF (e f g : Int) : Int := (rot3 e 6 11 25 + chF e f g) % 4294967296
def highF (a b c : Int) : Int := (rot3 a 2 13 22 + majF a b c) % 4294967296
theorem mix_ok {x : Int} (h0 : 0 ≤ x) (h1 : x < 4294967296) (a b c : Nat) (ha : a < 32) (hb : b < 32) (hc : c < 32) : comp_mix.f x a b c = some (rot3 x a b c) := by
  unfold comp_mix.f
  rw [rotate_ok h0 h1, bs, rotate_ok h0 h1, bs, rotate_ok h0 h1, bs, show ((a : Int) % 32).toNat = a by omega, show ((b : Int) % 32).toNat = b by omega, show ((c : Int) % 32).toNat = c by omega]
  rfl
theorem low_ok {e f g : Int} (h0 : 0 ≤ e) (h1 : e < 4294967296) : comp_low.f e f g = some (lowF e f g) := by
  unfold comp_low.f
  have := mix_ok h0 h1 6 11 25 (by decide) (by decide) (by decide)
  rw [show comp_mix.f e 6 11 25 = some (rot3 e 6 11 25) from this, bs, ch_eq h0 h1]
  rfl
theorem high_ok {a b c : Int} (h0 : 0 ≤ a) (h1 : a < 4294967296) : comp_high.f a b c = some (highF a b c) := by
  unfold comp_high.f
  have := mix_ok h0 h1 2 13 22 (by decide) (by decide) (by decide)
  rw [show comp_mix.f a 2 13 22 = some (rot3 a 2 13 22) from this, bs, maj_eq]
  rfl
theorem part7 (l : List Int) (o : Nat) (h : o + 7 ≤ 8) : Ar.part 8 l o 7 = [Ar.get 8 l o, Ar.get 8 l (o + 1 : Nat), Ar.get 8 l (o + 2 : Nat), Ar.get 8 l (o + 3 : Nat), Ar.get 8 l (o + 4 : Nat), Ar.get 8 l (o + 5 : Nat), Ar.get 8 l (o + 6 : Nat)] := by
  have hl : (Ar.fit 8 l).length = 8 := Ar.fit_len 8 l
  unfold Ar.part Ar.get
  rw [drop_step (n := o) (by omega), drop_step (n := o + 1) (by omega), drop_step (n := o + 1 + 1) (by omega), drop_step (n := o + 1 + 1 + 1) (by omega), drop_step (n := o + 1 + 1 + 1 + 1) (by omega), drop_step (n := o + 1 + 1 + 1 + 1 + 1) (by omega), drop_step (n := o + 1 + 1 + 1 + 1 + 1 + 1) (by omega)]
  simp only [List.take_succ_cons, List.take_zero]
theorem part7_0 (l : List Int) : Ar.part 8 l 0 7 = [Ar.get 8 l 0, Ar.get 8 l 1, Ar.get 8 l 2, Ar.get 8 l 3, Ar.get 8 l 4, Ar.get 8 l 5, Ar.get 8 l 6] := by
  have h := part7 l 0 (by omega)
  simpa only [Nat.zero_add, Int.cast_ofNat_Int] using h
theorem lay1 (a b c d e f g : Int) : Ar.putAll 8 (List.replicate 8 0) 1 [a, b, c, d, e, f, g] = [0, a, b, c, d, e, f, g] := by simp [Ar.putAll, Ar.set, Ar.fit, List.replicate]
theorem set0 (x a b c d e f g h : Int) : Ar.set 8 [a, b, c, d, e, f, g, h] 0 x = [x, b, c, d, e, f, g, h] := rfl
theorem set4 (x a b c d e f g h : Int) : Ar.set 8 [a, b, c, d, e, f, g, h] 4 x = [a, b, c, d, x, f, g, h] := rfl
theorem get8_4 (a b c d e f g h : Int) : Ar.get 8 [a, b, c, d, e, f, g, h] 4 = e := rfl
def tee (s : List Int) (w k : Int) : Int := (((Ar.get 8 s 7 + lowF (Ar.get 8 s 4) (Ar.get 8 s 5) (Ar.get 8 s 6)) % 4294967296 + k) % 4294967296 + w) % 4294967296
def rnd (s : List Int) (w k : Int) : List Int := [(tee s w k + highF (Ar.get 8 s 0) (Ar.get 8 s 1) (Ar.get 8 s 2)) % 4294967296, Ar.get 8 s 0, Ar.get 8 s 1, Ar.get 8 s 2, (Ar.get 8 s 3 + tee s w k) % 4294967296, Ar.get 8 s 4, Ar.get 8 s 5, Ar.get 8 s 6]
def off (s : List Int) : Int := (Ar.get 8 s 0 - highF (Ar.get 8 s 1) (Ar.get 8 s 2) (Ar.get 8 s 3)) % 4294967296
theorem Round_ok {s : List Int} (hs : InR 8 4294967296 s) (w k : Int) : comp_Round.f s w k = some (rnd s w k) := by
  unfold comp_Round.f
  rw [low_ok (hs 4).1 (hs 4).2, bs, high_ok (hs 0).1 (hs 0).2, bs, bs, part7_0, lay1, set0, get8_4, set4]
  rfl
theorem InR.lit {a b c d e f g h : Int} (H : ∀ x ∈ [a, b, c, d, e, f, g, h], 0 ≤ x ∧ x < 4294967296) : InR 8 4294967296 [a, b, c, d, e, f, g, h] := InR.of_mem (by decide) rfl H
theorem rnd_in {s : List Int} (hs : InR 8 4294967296 s) (w k : Int) : InR 8 4294967296 (rnd s w k) := by
  refine InR.lit ?_
  simp only [List.mem_cons, List.not_mem_nil, or_false, forall_eq_or_imp, forall_eq]
  exact ⟨by omega, hs 0, hs 1, hs 2, by omega, hs 4, hs 5, hs 6⟩
end Go.Proofs.YtkcdcbiobkcpmaaDoor.Lm
end
section
namespace Go.Proofs.YtkcdcbiobkcpmaaDoor.Lm
open Go.RowKit Go.Proofs.YtkcdcbiobkcpmaaDoor.PA Go.Proofs.YtkcdcbiobkcpmaaDoorW.PrintWords Go.Proofs.YtkcdcbiobkcpmaaDoorW.PrintLast Go.Proofs.YtkcdcbiobkcpmaaDoorW.PrintMore
theorem r01get32_step (k : Nat) (acc : Int) (l : List Int) (i : Nat) (hi : i < 4) (ha0 : 0 ≤ acc) (ha1 : acc < 256 ^ i) (hb : 0 ≤ Ar.get 4 l i ∧ Ar.get 4 l i < 256) : drawlotref01_Get32.l0 (k + 1) acc i l = drawlotref01_Get32.l0 k (acc * 256 + Ar.get 4 l i) ((i + 1 : Nat) : Int) l := by
  have e4 : wrap64 ((i : Int) + 1) = ((i + 1 : Nat) : Int) := by rw [w64_id (by omega) (by omega)]; omega
  have hlt : acc < 16777216 := by
    rcases (show i = 0 ∨ i = 1 ∨ i = 2 ∨ i = 3 by omega) with rfl | rfl | rfl | rfl <;> simp at ha1 <;> omega
  have e1 : (acc * 256 % 4294967296 + Ar.get 4 l i % 4294967296) % 4294967296 = acc * 256 + Ar.get 4 l i := by omega
  rw [drawlotref01_Get32.l0, if_pos (by omega), if_pos (by omega), e1, e4]
theorem r01get32_ok (k : Nat) (hk : 5 ≤ k) (b0 b1 b2 b3 : Int) (h : ∀ b ∈ [b0, b1, b2, b3], 0 ≤ b ∧ b < 256) : drawlotref01_Get32.f k [b0, b1, b2, b3] = some (((b0 * 256 + b1) * 256 + b2) * 256 + b3) := by
  obtain ⟨k, rfl⟩ : ∃ m, k = m + 5 := ⟨k - 5, by omega⟩
  simp only [List.mem_cons, List.not_mem_nil, or_false, forall_eq_or_imp, forall_eq] at h
  obtain ⟨h0, h1, h2, h3⟩ := h
  unfold drawlotref01_Get32.f
  have s := fun k acc i hi => r01get32_step k acc [b0, b1, b2, b3] i hi
  have hz := s (k + 4) 0 0 (by decide) (by decide) (by decide) h0
  have z : (0 : Int) * 256 + Ar.get 4 [b0, b1, b2, b3] (0 : Nat) = b0 := by show (0 : Int) * 256 + b0 = b0; omega
  rw [z] at hz
  refine Eq.trans hz ?_
  rw [s _ _ 1 (by decide) (by omega) (by show b0 < 256; omega) h1]
  show drawlotref01_Get32.l0 _ (b0 * 256 + b1) _ _ = _
  rw [s _ _ 2 (by decide) (by omega) (by show _ < (65536 : Int); omega) h2]
  show drawlotref01_Get32.l0 _ ((b0 * 256 + b1) * 256 + b2) _ _ = _
  rw [s _ _ 3 (by decide) (by omega) (by show _ < (16777216 : Int); omega) h3]
  show drawlotref01_Get32.l0 _ (((b0 * 256 + b1) * 256 + b2) * 256 + b3) _ _ = _
  rw [drawlotref01_Get32.l0, if_neg (by decide)]
end Go.Proofs.YtkcdcbiobkcpmaaDoor.Lm
end
section
namespace Go.Proofs.YtkcdcbiobkcpmaaDoor.Lm
open Go.RowKit Go.Proofs.YtkcdcbiobkcpmaaDoor.PA Go.Proofs.YtkcdcbiobkcpmaaDoorW.PrintWords Go.Proofs.YtkcdcbiobkcpmaaDoorW.PrintLast
theorem r03First {x : Int} (h0 : 0 ≤ x) (h1 : x < 4294967296) {k : Nat} (hk : 50 ≤ k) : drawlotref03_First.f k x = some (sig x 7 18 3) := by
  unfold drawlotref03_First.f
  rw [r01rotate_ok (by omega) h0 h1 (by omega) (by omega), bs, r01rotate_ok (by omega) h0 h1 (by omega) (by omega), bs, r01right_ok (by omega) h0 h1 (by omega) (by omega), bs]
  rfl
theorem r03Second {x : Int} (h0 : 0 ≤ x) (h1 : x < 4294967296) {k : Nat} (hk : 50 ≤ k) : drawlotref03_Second.f k x = some (sig x 17 19 10) := by
  unfold drawlotref03_Second.f
  rw [r01rotate_ok (by omega) h0 h1 (by omega) (by omega), bs, r01rotate_ok (by omega) h0 h1 (by omega) (by omega), bs, r01right_ok (by omega) h0 h1 (by omega) (by omega), bs]
  rfl
theorem r03of1 (b : List Int) : ∀ (d k i : Nat) (w : List Int), 16 ≤ i → i + d = 64 → d + 60 ≤ k → InR 64 4294967296 w → (∀ j : Int, 0 ≤ j → j < i → Lm.Good b w j) →
    ∃ w', drawlotref03_Of.l1 k i w = some w' ∧ ∀ j : Int, 0 ≤ j → j < 64 → Lm.Good b w' j
  | 0, k, i, w, h16, hi, hk, hw, hg => by
    obtain ⟨k, rfl⟩ : ∃ m, k = m + 1 := ⟨k - 1, by omega⟩
    refine ⟨w, ?_, fun j h0 h1 => hg j h0 (by omega)⟩
    simp only [drawlotref03_Of.l1]
    rw [if_neg (by omega)]
  | d + 1, k, i, w, h16, hi, hk, hw, hg => by
    obtain ⟨k, rfl⟩ : ∃ m, k = m + 1 := ⟨k - 1, by omega⟩
    have e1 : wrap64 ((i : Int) + 1) = ((i + 1 : Nat) : Int) := by rw [w64_id (by omega) (by omega)]; omega
    have e2 : wrap64 ((i : Int) - 2) = i - 2 := w64_id (by omega) (by omega)
    have e7 : wrap64 ((i : Int) - 7) = i - 7 := w64_id (by omega) (by omega)
    have e15 : wrap64 ((i : Int) - 15) = i - 15 := w64_id (by omega) (by omega)
    have e16 : wrap64 ((i : Int) - 16) = i - 16 := w64_id (by omega) (by omega)
    have hn : 0 ≤ next w i ∧ next w i < 4294967296 := by unfold next; omega
    obtain ⟨w', h', hg'⟩ := r03of1 b d k (i + 1) (Ar.set 64 w i (next w i)) (by omega) (by omega) (by omega) (hw.set (by omega) (by omega) hn) (fun j h0 h1 => by
      by_cases hji : j = i
      · subst hji
        refine ⟨fun h => by omega, fun _ => ?_⟩
        rw [get_set (by omega) (by omega) (by omega), if_pos rfl, next_keep (by omega) (by omega) (by omega) (by omega)]
      · exact (hg j h0 (by omega)).keep (by omega) (by omega) h0 (by omega))
    refine ⟨w', ?_, hg'⟩
    simp only [drawlotref03_Of.l1]
    rw [if_pos (by omega), e2, if_pos (by omega), if_pos (by omega), r03Second (hw _).1 (hw _).2 (by omega), bs, e7, if_pos (by omega), if_pos (by omega), e15, if_pos (by omega), if_pos (by omega), r03First (hw _).1 (hw _).2 (by omega), bs, e16, if_pos (by omega), if_pos (by omega), if_pos (by omega), e1]
    exact h'
theorem r03of0 (b : List Int) (hb : InR 64 256 b) : ∀ (d k i : Nat) (w : List Int), i + d = 16 → d + 120 ≤ k → InR 64 4294967296 w → (∀ j : Int, 0 ≤ j → j < i → Lm.Good b w j) →
    ∃ w', drawlotref03_Of.l0 k i b w = some w' ∧ ∀ j : Int, 0 ≤ j → j < 64 → Lm.Good b w' j
  | 0, k, i, w, hi, hk, hw, hg => by
    obtain ⟨k, rfl⟩ : ∃ m, k = m + 1 := ⟨k - 1, by omega⟩
    simp only [drawlotref03_Of.l0]
    rw [if_neg (by omega)]
    exact r03of1 b 48 k 16 w (by omega) (by omega) (by omega) hw (fun j h0 h1 => hg j h0 (by omega))
  | d + 1, k, i, w, hi, hk, hw, hg => by
    obtain ⟨k, rfl⟩ : ∃ m, k = m + 1 := ⟨k - 1, by omega⟩
    have e4 : wrap64 (4 * (i : Int)) = 4 * i := w64_id (by omega) (by omega)
    have e41 : wrap64 (4 * (i : Int) + 1) = 4 * i + 1 := w64_id (by omega) (by omega)
    have e42 : wrap64 (4 * (i : Int) + 2) = 4 * i + 2 := w64_id (by omega) (by omega)
    have e43 : wrap64 (4 * (i : Int) + 3) = 4 * i + 3 := w64_id (by omega) (by omega)
    have e1 : wrap64 ((i : Int) + 1) = ((i + 1 : Nat) : Int) := by rw [w64_id (by omega) (by omega)]; omega
    have h32 : drawlotref01_Get32.f k [Ar.get 64 b (4 * (i : Int)), Ar.get 64 b (4 * (i : Int) + 1), Ar.get 64 b (4 * (i : Int) + 2), Ar.get 64 b (4 * (i : Int) + 3)] = some (word4 b i) := by
      rw [r01get32_ok k (by omega) _ _ _ _ (by simp only [List.mem_cons, List.not_mem_nil, or_false, forall_eq_or_imp, forall_eq]; exact ⟨hb _, hb _, hb _, hb _⟩)]
      rfl
    obtain ⟨w', h', hg'⟩ := r03of0 b hb d k (i + 1) (Ar.set 64 w i (word4 b i)) (by omega) (by omega) (hw.set (by omega) (by omega) (word4_range hb i)) (fun j h0 h1 => by
      by_cases hji : j = i
      · subst hji
        refine ⟨fun _ => ?_, fun h => by omega⟩
        rw [get_set (by omega) (by omega) (by omega), if_pos rfl]
      · exact (hg j h0 (by omega)).keep (by omega) (by omega) h0 (by omega))
    refine ⟨w', ?_, hg'⟩
    simp only [drawlotref03_Of.l0]
    rw [if_pos (by omega), e4, if_pos (by omega), if_pos (by omega), e41, if_pos (by omega), if_pos (by omega), e42, if_pos (by omega), if_pos (by omega), e43, if_pos (by omega), if_pos (by omega), h32, bs, if_pos (by omega), if_pos (by omega), e1]
    exact h'
theorem plans_same {b w v : List Int} (hw : ∀ j : Int, 0 ≤ j → j < 64 → Lm.Good b w j) (hv : ∀ j : Int, 0 ≤ j → j < 64 → Lm.Good b v j) : ∀ (n : Nat) (j : Int), j < n → 0 ≤ j → j < 64 → Ar.get 64 w j = Ar.get 64 v j
  | 0, j, hn, h0, h1 => by omega
  | n + 1, j, hn, h0, h1 => by
    by_cases hc : j < 16
    · rw [(hw j h0 h1).1 hc, (hv j h0 h1).1 hc]
    · rw [(hw j h0 h1).2 (by omega), (hv j h0 h1).2 (by omega)]
      unfold next
      have ih := fun i (a : i < (n : Int)) (b : 0 ≤ i) (c : i < 64) => plans_same hw hv n i a b c
      rw [ih (j - 2) (by omega) (by omega) (by omega), ih (j - 7) (by omega) (by omega) (by omega), ih (j - 15) (by omega) (by omega) (by omega), ih (j - 16) (by omega) (by omega) (by omega)]
theorem turned_ok {x : Int} (h0 : 0 ≤ x) (h1 : x < 4294967296) {k : Nat} (hk : 50 ≤ k) (a b c : Nat) (ha : a < 32) (hb : b < 32) (hc : c < 32) : drawlotref04_turned.f k x a b c = some (rot3 x a b c) := by
  unfold drawlotref04_turned.f
  rw [r01rotate_ok (by omega) h0 h1 (by omega) (by omega), bs, r01rotate_ok (by omega) h0 h1 (by omega) (by omega), bs, r01rotate_ok (by omega) h0 h1 (by omega) (by omega), bs, show ((a : Int) % 32).toNat = a by omega, show ((b : Int) % 32).toNat = b by omega, show ((c : Int) % 32).toNat = c by omega]
  rfl
theorem r04Round {s : List Int} (hs : InR 8 4294967296 s) (w k : Int) {n : Nat} (hn : 50 ≤ n) : drawlotref04_Round.f n s w k = some (rnd s w k) := by
  unfold drawlotref04_Round.f
  have t1 := turned_ok (hs 4).1 (hs 4).2 hn 6 11 25 (by decide) (by decide) (by decide)
  have t2 := turned_ok (hs 0).1 (hs 0).2 hn 2 13 22 (by decide) (by decide) (by decide)
  rw [show drawlotref04_turned.f n (Ar.get 8 s 4) 6 11 25 = _ from t1, bs, show drawlotref04_choice.f (Ar.get 8 s 4) (Ar.get 8 s 5) (Ar.get 8 s 6) = some (chF (Ar.get 8 s 4) (Ar.get 8 s 5) (Ar.get 8 s 6)) from rfl, bs,
    show drawlotref04_turned.f n (Ar.get 8 s 0) 2 13 22 = _ from t2, bs, show drawlotref04_majority.f (Ar.get 8 s 0) (Ar.get 8 s 1) (Ar.get 8 s 2) = some (majF (Ar.get 8 s 0) (Ar.get 8 s 1) (Ar.get 8 s 2)) from rfl, bs]
  have e : ((((Ar.get 8 s 7 + rot3 (Ar.get 8 s 4) 6 11 25) % 4294967296 + chF (Ar.get 8 s 4) (Ar.get 8 s 5) (Ar.get 8 s 6)) % 4294967296 + k) % 4294967296 + w) % 4294967296 = tee s w k := by
    unfold tee lowF
    omega
  rw [e]
  rfl
def Cs : List Int := (comp_constants.f).getD []
theorem constants_ok : comp_constants.f = some Cs := rfl
theorem r04Constant {i : Int} (h0 : 0 ≤ i) (h1 : i < 64) : drawlotref04_Constant.f i = some (Ar.get 64 Cs i) := by
  unfold drawlotref04_Constant.f
  rw [if_neg (by omega), if_neg (by omega), if_pos (by omega), if_pos (by omega)]
  rfl
theorem take_end (a : List Int) : ∀ (d k i : Nat) (x : List Int), i + d = 8 → d < k → InR 8 4294967296 x → ∃ r, comp_Take.l1 k i a x = some r ∧ drawlotref04_Take.l1 k i a x = some r ∧ InR 8 4294967296 r
  | 0, k, i, x, hi, hk, hx => by
    obtain ⟨k, rfl⟩ : ∃ m, k = m + 1 := ⟨k - 1, by omega⟩
    refine ⟨x, ?_, ?_, hx⟩
    · simp only [comp_Take.l1]
      rw [if_neg (by omega)]
    · simp only [drawlotref04_Take.l1]
      rw [if_neg (by omega)]
  | d + 1, k, i, x, hi, hk, hx => by
    obtain ⟨k, rfl⟩ : ∃ m, k = m + 1 := ⟨k - 1, by omega⟩
    have e1 : wrap64 ((i : Int) + 1) = ((i + 1 : Nat) : Int) := by rw [w64_id (by omega) (by omega)]; omega
    obtain ⟨r, h1, h2, h3⟩ := take_end a d k (i + 1) (Ar.set 8 x i ((Ar.get 8 x i + Ar.get 8 a i) % 4294967296)) (by omega) (by omega) (hx.set (by omega) (by omega) (by omega))
    refine ⟨r, ?_, ?_, h3⟩
    · simp only [comp_Take.l1]
      rw [if_pos (by omega), if_pos (by omega), e1]
      exact h1
    · simp only [drawlotref04_Take.l1]
      rw [if_pos (by omega), if_pos (by omega), e1]
      exact h2
theorem take_loop (a w v : List Int) (hwv : ∀ j : Int, 0 ≤ j → j < 64 → Ar.get 64 w j = Ar.get 64 v j) : ∀ (d k i : Nat) (x : List Int), i + d = 64 → d + 60 ≤ k → InR 8 4294967296 x → ∃ r, comp_Take.l0 k w i a x Cs = some r ∧ drawlotref04_Take.l0 k i a v x = some r ∧ InR 8 4294967296 r
  | 0, k, i, x, hi, hk, hx => by
    obtain ⟨k, rfl⟩ : ∃ m, k = m + 1 := ⟨k - 1, by omega⟩
    obtain ⟨r, h1, h2, h3⟩ := take_end a 8 k 0 x (by omega) (by omega) hx
    refine ⟨r, ?_, ?_, h3⟩
    · simp only [comp_Take.l0]
      rw [if_neg (by omega)]
      exact h1
    · simp only [drawlotref04_Take.l0]
      rw [if_neg (by omega)]
      exact h2
  | d + 1, k, i, x, hi, hk, hx => by
    obtain ⟨k, rfl⟩ : ∃ m, k = m + 1 := ⟨k - 1, by omega⟩
    have e1 : wrap64 ((i : Int) + 1) = ((i + 1 : Nat) : Int) := by rw [w64_id (by omega) (by omega)]; omega
    obtain ⟨r, h1, h2, h3⟩ := take_loop a w v hwv d k (i + 1) (rnd x (Ar.get 64 w i) (Ar.get 64 Cs i)) (by omega) (by omega) (rnd_in hx _ _)
    refine ⟨r, ?_, ?_, h3⟩
    · simp only [comp_Take.l0]
      rw [if_pos (by omega), if_pos (by omega), Round_ok hx, bs, e1]
      exact h1
    · simp only [drawlotref04_Take.l0]
      rw [if_pos (by omega), if_pos (by omega), r04Constant (by omega) (by omega), bs, ← hwv i (by omega) (by omega), r04Round hx _ _ (by omega), bs, e1]
      exact h2
def tk (s b : List Int) : List Int := (comp_Take.f 200 s b).getD []
theorem tk_ok {s b : List Int} (hs : InR 8 4294967296 s) (hb : InR 64 256 b) {n : Nat} (hn : 200 ≤ n) : comp_Take.f n s b = some (tk s b) ∧ drawlotref04_Take.f n s b = some (tk s b) ∧ InR 8 4294967296 (tk s b) := by
  obtain ⟨w, ew, _, hw⟩ := Of_ok hb (k := 200) (by omega)
  obtain ⟨v, ev, hv⟩ := r03of0 b hb 16 200 0 _ (by omega) (by omega) (InR.zero 64 (by decide)) (fun j h0 h1 => by omega)
  obtain ⟨r, h1, h2, h3⟩ := take_loop s w v (fun j h0 h1 => plans_same hw hv 64 j (by omega) h0 h1) 64 200 0 s (by omega) (by omega) hs
  have t1 : comp_Take.f 200 s b = some r := by
    unfold comp_Take.f
    rw [constants_ok, bs, ew, bs]
    exact h1
  have t2 : drawlotref04_Take.f 200 s b = some r := by
    unfold drawlotref04_Take.f
    rw [show drawlotref03_Of.f 200 b = some v from ev, bs]
    exact h2
  have e : tk s b = r := by unfold tk; rw [t1]; rfl
  rw [e]
  exact ⟨at_rounds (g := fun k => comp_Take.f k s b) (fun k => comp_Take.mono s b k) (k := 200) (k' := n) hn t1, at_rounds (g := fun k => drawlotref04_Take.f k s b) (fun k => drawlotref04_Take.mono s b k) (k := 200) (k' := n) hn t2, h3⟩
end Go.Proofs.YtkcdcbiobkcpmaaDoor.Lm
end
section
namespace Go.Proofs.YtkcdcbiobkcpmaaDoor.Lm
open Go.RowKit Go.Proofs.YtkcdcbiobkcpmaaDoor.PA Go.Proofs.YtkcdcbiobkcpmaaDoorW.PrintWords Go.Proofs.YtkcdcbiobkcpmaaDoorW.PrintLast Go.Proofs.YtkcdcbiobkcpmaaDoorW.PrintMore
def be8 (x : Int) : List Int := [x / 72057594037927936 % 256, x / 281474976710656 % 256, x / 1099511627776 % 256, x / 4294967296 % 256, x / 16777216 % 256, x / 65536 % 256, x / 256 % 256, x % 256]
theorem be8_len (x : Int) : (be8 x).length = 8 := rfl
theorem be8_byte (x : Int) : ∀ y ∈ be8 x, 0 ≤ y ∧ y < 256 := by
  intro y hy
  simp only [be8, List.mem_cons, List.mem_nil_iff, or_false] at hy
  rcases hy with h | h | h | h | h | h | h | h <;> subst h <;> omega
theorem pput64_step (k : Nat) (x : Int) (i : Nat) (l : List Int) (hi : i < 8) : word_Put64.l0 (k + 1) x i l = word_Put64.l0 k x ((i + 1 : Nat) : Int) (Ar.set 8 l i (x / 2 ^ (8 * (7 - i)) % 256)) := by
  have e1 : wrap64 (7 - (i : Int)) = 7 - i := w64_id (by omega) (by omega)
  have e2 : wrap64 (8 * (7 - (i : Int))) = 8 * (7 - i) := w64_id (by omega) (by omega)
  have e3 : IntKind.u64.wrap (8 * (7 - (i : Int))) = 8 * (7 - i) := u64w_id (by omega) (by omega)
  have e4 : wrap64 ((i : Int) + 1) = ((i + 1 : Nat) : Int) := by rw [w64_id (by omega) (by omega)]; omega
  have e5 : shr .u64 x (8 * (7 - (i : Int))) = x / 2 ^ (8 * (7 - i)) := by
    unfold shr
    rw [show (8 * (7 - (i : Int))).toNat = 8 * (7 - i) by omega, Nat.min_eq_left (show 8 * (7 - i) ≤ IntKind.u64.bits by show _ ≤ 64; omega)]
  rw [word_Put64.l0, if_pos (by omega), e1, e2, e3, if_pos (by omega), if_pos (by omega), e4, e5]
theorem pput64_ok (k : Nat) (hk : 9 ≤ k) (x : Int) : word_Put64.f k x = some (be8 x) := by
  obtain ⟨k, rfl⟩ : ∃ m, k = m + 9 := ⟨k - 9, by omega⟩
  unfold word_Put64.f be8
  have s := fun k i l hi => pput64_step k x i l hi
  rw [show ((0 : Int)) = ((0 : Nat) : Int) from rfl, s _ 0 _ (by decide), s _ 1 _ (by decide), s _ 2 _ (by decide), s _ 3 _ (by decide), s _ 4 _ (by decide), s _ 5 _ (by decide), s _ 6 _ (by decide), s _ 7 _ (by decide), word_Put64.l0, if_neg (by decide)]
  simp [Ar.set, Ar.fit, List.set]
theorem pblocks_ok (a : Int) (h0 : 0 ≤ a) (_h1 : a < 18446744073709551616) : pad_Blocks.f a = some (if a ≥ 2305843009213693952 then 0 else (a + 72) / 64) := by
  unfold pad_Blocks.f
  by_cases h : a ≥ 2305843009213693952
  · rw [if_pos h, if_pos h]
  · rw [if_neg h, if_neg h, u64w_id (x := a + 8) (by omega) (by omega), u64w_id (x := a + 8 + 64) (by omega) (by omega), Int.tdiv_eq_ediv_of_nonneg (by omega), u64w_id (by omega) (by omega), show a + 8 + 64 = a + 72 by omega]
def zerosF (r : Nat) : Nat := if r ≤ 55 then 55 - r else 119 - r
def tailF (l : List Int) (n : Int) : List Int := l ++ 128 :: (List.replicate (zerosF l.length) 0 ++ be8 (IntKind.u64.wrap (n * 8)))
theorem pad_list (l : List Int) (S z : Nat) (h : S = l.length + 1 + z + 8) (x : List Int) (hx : x.length = 8) : ((l ++ List.replicate (S - l.length) 0).set l.length 128).take (S - 8) ++ Ar.fit 8 x = l ++ 128 :: (List.replicate z 0 ++ x) := by
  subst h
  rw [Ar.fit_id hx, show l.length + 1 + z + 8 - l.length = (z + 8) + 1 by omega, List.replicate_succ, List.set_append_right _ _ (Nat.le_refl _), Nat.sub_self, List.set_cons_zero, show l.length + 1 + z + 8 - 8 = l.length + (z + 1) by omega, List.take_append, List.take_of_length_le (by omega), show l.length + (z + 1) - l.length = z + 1 by omega, List.take_succ_cons, List.take_replicate, Nat.min_eq_left (by omega)]
  simp
theorem ptail_ok (k : Nat) (hk : 9 ≤ k) (l : List Int) (n : Int) (h0 : 0 ≤ n) (h1 : n < 18446744073709551616) (hl : l.length < 9223372036854775807) : pad_Tail.f k l n = some (if n ≥ 2305843009213693952 ∨ (l.length : Int) ≠ n % 64 then ([], false) else (tailF l n, true)) := by
  unfold pad_Tail.f
  by_cases h : n ≥ 2305843009213693952
  · rw [if_pos h, if_pos (Or.inl h)]
  · rw [if_neg h, u64w_id (x := (l.length : Int)) (by omega) (by omega), Int.tmod_eq_emod_of_nonneg h0]
    by_cases hr : (l.length : Int) = n % 64
    · rw [if_pos hr, if_neg (by simp; omega), pblocks_ok n h0 h1, bs, pput64_ok k hk, bs, if_neg h, Int.tdiv_eq_ediv_of_nonneg h0, u64w_id (x := n / 64) (by omega) (by omega), u64w_id (x := (n + 72) / 64 - n / 64) (by omega) (by omega), w64_id (x := (n + 72) / 64 - n / 64) (by omega) (by omega), w64_id (x := ((n + 72) / 64 - n / 64) * 64) (by omega) (by omega), if_pos (by omega)]
      rw [pad_list l _ (zerosF l.length) (by unfold zerosF; split <;> omega) _ (be8_len _)]
      rfl
    · rw [if_neg hr, if_pos (Or.inr hr)]
def cutF : Nat → List Int → List (List Int)
  | 0, _ => []
  | m + 1, b => b.take 64 :: cutF m (b.drop 64)
theorem cutF_len : ∀ (m : Nat) (b : List Int), (cutF m b).length = m
  | 0, _ => rfl
  | m + 1, b => by rw [cutF, List.length_cons, cutF_len]
theorem pcut_loop : ∀ (m k : Nat) (b : List Int) (out : List (List Int)), b.length / 64 = m → m < k → out.length + m < 1048576 → pad_Cut.l0 k b out = some (out ++ cutF m b, b.drop (64 * m))
  | 0, k + 1, b, out, h, _, _ => by
    rw [pad_Cut.l0, if_neg (by omega)]
    simp [cutF]
  | m + 1, k + 1, b, out, h, hk, ho => by
    rw [pad_Cut.l0, if_pos (by omega), if_pos (by omega), pcut_loop m k (b.drop 64) (out ++ [b.take 64]) (by rw [List.length_drop]; omega) (by omega) (by simp; omega), cutF, List.drop_drop, show 64 + 64 * m = 64 * (m + 1) by omega]
    simp
theorem pcut_ok (k : Nat) (l : List Int) (hk : l.length / 64 < k) (hl : l.length < 1000000) : pad_Cut.f k l = some (cutF (l.length / 64) l, l.drop (64 * (l.length / 64))) := by
  unfold pad_Cut.f
  rw [pcut_loop (l.length / 64) k l [] rfl hk (by simp; omega)]
  simp
def padF (l : List Int) : List Int := l ++ 128 :: (List.replicate (zerosF (l.length % 64)) 0 ++ be8 (l.length * 8))
theorem padF_len (l : List Int) : ((padF l).length : Int) = 64 * (((l.length : Int) + 72) / 64) := by
  unfold padF zerosF
  simp only [List.length_append, List.length_cons, List.length_replicate, be8_len]
  split <;> omega
theorem padF_byte {l : List Int} (h : ∀ x ∈ l, 0 ≤ x ∧ x < 256) : ∀ x ∈ padF l, 0 ≤ x ∧ x < 256 := by
  intro x hx
  unfold padF at hx
  rcases List.mem_append.1 hx with h1 | h1
  · exact h x h1
  · rcases List.mem_cons.1 h1 with h2 | h2
    · subst h2; omega
    · rcases List.mem_append.1 h2 with h3 | h3
      · have := List.eq_of_mem_replicate h3
        omega
      · exact be8_byte _ x h3
end Go.Proofs.YtkcdcbiobkcpmaaDoor.Lm
end
section
namespace Go.Proofs.YtkcdcbiobkcpmaaDoor.Lm
open Go.RowKit Go.Proofs.YtkcdcbiobkcpmaaDoor.PA Go.Proofs.YtkcdcbiobkcpmaaDoorW.PrintWords Go.Proofs.YtkcdcbiobkcpmaaDoorW.PrintLast Go.Proofs.YtkcdcbiobkcpmaaDoorW.PrintMore
theorem r02put64_step (k : Nat) (x : Int) (i : Nat) (l : List Int) (hi : i < 8) (h0 : 0 ≤ x) (h1 : x < 18446744073709551616) : drawlotref01_Put64.l0 (k + 1) x i l = drawlotref01_Put64.l0 k (x / 256) ((i : Int) - 1) (Ar.set 8 l i (x % 256)) := by
  have e1 : IntKind.u64.wrap (Int.tdiv x 256) = x / 256 := by rw [Int.tdiv_eq_ediv_of_nonneg h0, u64w]; omega
  have e2 : Int.tmod x 256 % 256 = x % 256 := by rw [Int.tmod_eq_emod_of_nonneg h0]; omega
  rw [drawlotref01_Put64.l0, if_pos (by omega), if_pos (by omega), if_pos (by omega), e1, e2, w64_id (by omega) (by omega)]
theorem r02put64_ok (k : Nat) (hk : 9 ≤ k) (x : Int) (h0 : 0 ≤ x) (h1 : x < 18446744073709551616) : drawlotref01_Put64.f k x = some (be8 x) := by
  obtain ⟨k, rfl⟩ : ∃ m, k = m + 9 := ⟨k - 9, by omega⟩
  unfold drawlotref01_Put64.f be8
  rw [show (7 : Int) = ((7 : Nat) : Int) from rfl, r02put64_step _ _ 7 _ (by decide) h0 h1, show ((7 : Nat) : Int) - 1 = ((6 : Nat) : Int) from rfl, r02put64_step _ _ 6 _ (by decide) (by omega) (by omega), show ((6 : Nat) : Int) - 1 = ((5 : Nat) : Int) from rfl,
    r02put64_step _ _ 5 _ (by decide) (by omega) (by omega), show ((5 : Nat) : Int) - 1 = ((4 : Nat) : Int) from rfl, r02put64_step _ _ 4 _ (by decide) (by omega) (by omega), show ((4 : Nat) : Int) - 1 = ((3 : Nat) : Int) from rfl, r02put64_step _ _ 3 _ (by decide) (by omega) (by omega), show ((3 : Nat) : Int) - 1 = ((2 : Nat) : Int) from rfl, r02put64_step _ _ 2 _ (by decide) (by omega) (by omega), show ((2 : Nat) : Int) - 1 = ((1 : Nat) : Int) from rfl,
    r02put64_step _ _ 1 _ (by decide) (by omega) (by omega), show ((1 : Nat) : Int) - 1 = ((0 : Nat) : Int) from rfl, r02put64_step _ _ 0 _ (by decide) (by omega) (by omega), drawlotref01_Put64.l0, if_neg (by decide)]
  have e2 : x / 256 / 256 = x / 65536 := by omega
  have e3 : x / 65536 / 256 = x / 16777216 := by omega
  have e4 : x / 16777216 / 256 = x / 4294967296 := by omega
  have e5 : x / 4294967296 / 256 = x / 1099511627776 := by omega
  have e6 : x / 1099511627776 / 256 = x / 281474976710656 := by omega
  have e7 : x / 281474976710656 / 256 = x / 72057594037927936 := by omega
  simp only [e2, e3, e4, e5, e6, e7]
  simp [Ar.set, Ar.fit, List.set]
theorem rfill (n : Int) : ∀ (z k : Nat) (x : List Int), (∀ i, i < z → (x.length + i) % 64 ≠ 56) → x.length + z < 100000 → drawlotref02_Tail.l0 (k + z) n x = drawlotref02_Tail.l0 k n (x ++ List.replicate z 0)
  | 0, k, x, _, _ => by simp
  | z + 1, k, x, h, hl => by
    have h0 := h 0 (by omega)
    rw [show k + (z + 1) = (k + z) + 1 by omega]
    conv => lhs; rw [drawlotref02_Tail.l0]
    rw [if_neg (by omega), if_pos (by omega), rfill n z k (x ++ [0]) (fun i hi => by have := h (i + 1) (by omega); rw [List.length_append, List.length_singleton]; omega) (by simp; omega), List.append_assoc, List.replicate_succ]
    rfl
theorem rcopy (k : Nat) (i : Nat) (x b : List Int) (hi : i < 8) (hl : x.length < 1000000) : drawlotref02_Tail.l1 (k + 1) x i b = drawlotref02_Tail.l1 k (x ++ [Ar.get 8 b i]) ((i + 1 : Nat) : Int) b := by
  conv => lhs; rw [drawlotref02_Tail.l1]
  rw [if_pos (by omega), if_pos (by omega), if_pos (by omega), w64_id (by omega) (by omega)]
  rfl
theorem rcopied (k : Nat) (hk : 9 ≤ k) (x : List Int) (z : Int) (hl : x.length < 100000) : drawlotref02_Tail.l1 k x 0 (be8 z) = some (x ++ be8 z, true) := by
  obtain ⟨k, rfl⟩ : ∃ m, k = m + 9 := ⟨k - 9, by omega⟩
  rw [show (0 : Int) = ((0 : Nat) : Int) from rfl, rcopy _ 0 _ _ (by decide) (by omega), rcopy _ 1 _ _ (by decide) (by simp; omega), rcopy _ 2 _ _ (by decide) (by simp; omega), rcopy _ 3 _ _ (by decide) (by simp; omega), rcopy _ 4 _ _ (by decide) (by simp; omega), rcopy _ 5 _ _ (by decide) (by simp; omega), rcopy _ 6 _ _ (by decide) (by simp; omega), rcopy _ 7 _ _ (by decide) (by simp; omega)]
  conv => lhs; rw [drawlotref02_Tail.l1]
  rw [if_neg (by decide)]
  have g : ∀ i, i < 8 → Ar.get 8 (be8 z) (i : Nat) = (be8 z).getD i 0 := by
    intro i hi
    unfold Ar.get
    rw [Ar.fit_id (be8_len z), rd_nat]
  rw [g 0 (by decide), g 1 (by decide), g 2 (by decide), g 3 (by decide), g 4 (by decide), g 5 (by decide), g 6 (by decide), g 7 (by decide)]
  simp [be8]
theorem rtail_ok (k : Nat) (hk : 90 ≤ k) (l : List Int) (n : Int) (h0 : 0 ≤ n) (h1 : n < 18446744073709551616) (hl : l.length < 90000) : drawlotref02_Tail.f k l n = some (if n ≥ 2305843009213693952 ∨ (l.length : Int) ≠ n % 64 then ([], false) else (tailF l n, true)) := by
  obtain ⟨k, rfl⟩ : ∃ m, k = (m + 80) + 1 := ⟨k - 81, by omega⟩
  unfold drawlotref02_Tail.f
  by_cases h : n ≥ 2305843009213693952
  · rw [if_pos h, if_pos (Or.inl h), drawlotref02_Tail.j0, if_pos rfl]
  · rw [if_neg h, u64w_id (x := (l.length : Int)) (by omega) (by omega), Int.tmod_eq_emod_of_nonneg h0]
    by_cases hr : (l.length : Int) = n % 64
    · rw [if_neg (by simp; omega), show ((l.length : Int) != n % 64) = false from bne_eq_false_iff_eq.mpr hr, drawlotref02_Tail.j0, if_neg (by decide), bs, if_pos (by simp; omega), bs, if_pos (by simp; omega)]
      have hz : zerosF l.length ≤ 63 := by unfold zerosF; split <;> omega
      rw [show k + 80 = ((k + 79 - zerosF l.length) + 1) + zerosF l.length by omega, rfill n _ _ _ (fun i hi => by
        unfold zerosF at hi
        simp only [List.nil_append, List.length_append, List.length_singleton]
        split at hi <;> omega) (by simp; omega)]
      conv => lhs; rw [drawlotref02_Tail.l0]
      rw [if_pos (by
        unfold zerosF
        simp only [List.nil_append, List.length_append, List.length_singleton, List.length_replicate]
        split <;> omega), r02put64_ok _ (by omega) _ (by rw [u64w]; omega) (by rw [u64w]; omega), bs, rcopied _ (by omega) _ _ (by simp; omega)]
      unfold tailF
      rw [show (8 * n : Int) = n * 8 by omega]
      simp
    · rw [if_pos (Or.inr hr), show ((l.length : Int) != n % 64) = true from bne_iff_ne.mpr hr, drawlotref02_Tail.j0, if_pos rfl]
end Go.Proofs.YtkcdcbiobkcpmaaDoor.Lm
end
section
namespace Go.Proofs.YtkcdcbiobkcpmaaDoor.Lm
open Go.RowKit Go.Proofs.YtkcdcbiobkcpmaaDoor.PA Go.Proofs.YtkcdcbiobkcpmaaDoorW.PrintWords Go.Proofs.YtkcdcbiobkcpmaaDoorW.PrintLast Go.Proofs.YtkcdcbiobkcpmaaDoorW.PrintMore
theorem rcut_loop : ∀ (m k : Nat) (b : List Int) (out : List (List Int)) (t : Nat), (b.length - t) / 64 = m → t ≤ b.length → m < k → out.length + m < 1048576 → b.length < 1000000 → drawlotref02_Cut.l0 k b out (t : Int) = some (out ++ cutF m (b.drop t), b.drop (t + 64 * m))
  | 0, k + 1, b, out, t, h, ht, _, _, hb => by
    rw [drawlotref02_Cut.l0, if_pos ⟨by omega, by omega, by omega⟩, if_neg (by omega)]
    simp [cutF]
  | m + 1, k + 1, b, out, t, h, ht, hk, ho, hb => by
    have e := rcut_loop m k b (out ++ [(b.drop t).take 64]) (t + 64) (by omega) (by omega) (by omega) (by simp; omega) hb
    rw [drawlotref02_Cut.l0, if_pos ⟨by omega, by omega, by omega⟩, if_pos (by omega), if_pos (by omega), Int.toNat_natCast, show ((t : Int) + 64) = ((t + 64 : Nat) : Int) by omega, e, cutF, List.drop_drop, show t + 64 + 64 * m = t + 64 * (m + 1) by omega]
    simp
theorem rcut_ok (k : Nat) (l : List Int) (hk : l.length / 64 < k) (hl : l.length < 1000000) : drawlotref02_Cut.f k l = some (cutF (l.length / 64) l, l.drop (64 * (l.length / 64))) := by
  unfold drawlotref02_Cut.f
  have := rcut_loop (l.length / 64) k l [] 0 (by simp) (by omega) hk (by simp; omega) hl
  rw [show (0 : Int) = ((0 : Nat) : Int) from rfl, this]
  simp
theorem rpad_ok (k : Nat) (hk : 90 ≤ k) (l : List Int) (hl : l.length ≤ 60000) : drawlotref02_Pad.f k l = some (padF l) := by
  unfold drawlotref02_Pad.f
  have hd : (l.drop ((l.length : Int) - (l.length : Int) % 64).toNat).length = l.length % 64 := by rw [List.length_drop]; omega
  have ht : drawlotref02_Tail.f k (l.drop ((l.length : Int) - (l.length : Int) % 64).toNat) (l.length : Int) = some (tailF (l.drop ((l.length : Int) - (l.length : Int) % 64).toNat) (l.length : Int), true) := by
    rw [rtail_ok k hk _ _ (by omega) (by omega) (by omega), if_neg]
    rw [hd]; omega
  have hz : (tailF (l.drop ((l.length : Int) - (l.length : Int) % 64).toNat) (l.length : Int)).length < 5000 := by
    unfold tailF zerosF
    simp only [List.length_append, List.length_cons, List.length_replicate, be8_len, hd]
    split <;> omega
  rw [w64_id (by omega) (by omega), if_pos (by omega), if_pos (by omega), u64w_id (x := (l.length : Int)) (by omega) (by omega), ht, bs, bs, if_pos (by simp; omega), bs, if_pos (by simp; omega)]
  unfold tailF padF
  rw [hd, List.nil_append, ← List.append_assoc, List.take_append_drop, u64w_id (by omega) (by omega)]
end Go.Proofs.YtkcdcbiobkcpmaaDoor.Lm
end
section
namespace Go.Proofs.YtkcdcbiobkcpmaaDoor.Lm
open Go.RowKit Go.Proofs.YtkcdcbiobkcpmaaDoor.PA Go.Proofs.YtkcdcbiobkcpmaaDoorW.PrintWords Go.Proofs.YtkcdcbiobkcpmaaDoorW.PrintLast
def ByteL (l : List Int) : Prop := ∀ x ∈ l, 0 ≤ x ∧ x < 256
theorem ByteL.app {a b : List Int} (ha : ByteL a) (hb : ByteL b) : ByteL (a ++ b) := fun x hx => by
  rcases List.mem_append.1 hx with h | h
  · exact ha x h
  · exact hb x h
theorem ByteL.drop {a : List Int} (ha : ByteL a) (n : Nat) : ByteL (a.drop n) := fun x hx => ha x (List.mem_of_mem_drop hx)
theorem ByteL.take {a : List Int} (ha : ByteL a) (n : Nat) : ByteL (a.take n) := fun x hx => ha x (List.mem_of_mem_take hx)
theorem ByteL.nil : ByteL [] := fun x hx => by cases hx
def Blk (b : List Int) : Prop := b.length = 64 ∧ ByteL b
theorem Blk.inR {b : List Int} (h : Blk b) : InR 64 256 b := InR.of_mem (by decide) h.1 h.2
def takes (s : List Int) (l : List (List Int)) : List Int := l.foldl tk s
theorem takes_app (s : List Int) (a b : List (List Int)) : takes s (a ++ b) = takes (takes s a) b := List.foldl_append
def bks (l : List Int) : List (List Int) := cutF (l.length / 64) l
def rst (l : List Int) : List Int := l.drop (64 * (l.length / 64))
theorem rst_len (l : List Int) : (rst l).length = l.length % 64 := by unfold rst; rw [List.length_drop]; omega
theorem cutF_app : ∀ (m n : Nat) (x y : List Int), 64 * m ≤ x.length → cutF (m + n) (x ++ y) = cutF m x ++ cutF n (x.drop (64 * m) ++ y)
  | 0, n, x, y, _ => by simp [cutF]
  | m + 1, n, x, y, h => by
    rw [show m + 1 + n = (m + n) + 1 by omega]
    simp only [cutF]
    rw [List.take_append_of_le_length (by omega), List.drop_append_of_le_length (by omega), cutF_app m n (x.drop 64) y (by rw [List.length_drop]; omega), List.drop_drop, show 64 + 64 * m = 64 * (m + 1) by omega]
    rfl
theorem bks_app (x y : List Int) : bks (x ++ y) = bks x ++ bks (rst x ++ y) := by
  unfold bks
  have h : (x ++ y).length / 64 = x.length / 64 + (rst x ++ y).length / 64 := by
    rw [List.length_append, List.length_append, rst_len]; omega
  rw [h, cutF_app _ _ x y (by omega)]
  rfl
theorem rst_app (x y : List Int) : rst (x ++ y) = rst (rst x ++ y) := by
  have h : (x ++ y).length / 64 = x.length / 64 + (rst x ++ y).length / 64 := by
    rw [List.length_append, List.length_append, rst_len]; omega
  have e : rst (x ++ y) = (x ++ y).drop (64 * (x.length / 64 + (rst x ++ y).length / 64)) := by rw [show rst (x ++ y) = (x ++ y).drop (64 * ((x ++ y).length / 64)) from rfl, h]
  rw [e, Nat.mul_add, ← List.drop_drop, List.drop_append_of_le_length (by omega)]
  rfl
theorem bks_short {l : List Int} (h : l.length < 64) : bks l = [] := by unfold bks; rw [Nat.div_eq_of_lt h]; rfl
theorem rst_short {l : List Int} (h : l.length < 64) : rst l = l := by unfold rst; rw [Nat.div_eq_of_lt h]; rfl
theorem cutF_blk : ∀ (m : Nat) (l : List Int), 64 * m ≤ l.length → ByteL l → ∀ b ∈ cutF m l, Blk b
  | 0, l, _, _, b, hb => by cases hb
  | m + 1, l, h, hl, b, hb => by
    simp only [cutF, List.mem_cons] at hb
    rcases hb with rfl | hb
    · exact ⟨by rw [List.length_take]; omega, hl.take 64⟩
    · exact cutF_blk m (l.drop 64) (by rw [List.length_drop]; omega) (hl.drop 64) b hb
theorem bks_blk {l : List Int} (hl : ByteL l) : ∀ b ∈ bks l, Blk b := cutF_blk _ l (by omega) hl
theorem bks_len (l : List Int) : (bks l).length = l.length / 64 := cutF_len _ l
theorem takes_in {s : List Int} (hs : InR 8 4294967296 s) : ∀ {l : List (List Int)}, (∀ b ∈ l, Blk b) → InR 8 4294967296 (takes s l) := by
  intro l
  induction l generalizing s with
  | nil => intro _; exact hs
  | cons b l ih => intro h; exact ih (tk_ok hs (h b (List.mem_cons_self ..)).inR (n := 200) (by omega)).2.2 (fun c hc => h c (List.mem_cons_of_mem _ hc))
theorem stake_loop (l : List (List Int)) (hl : l.length < 1000000) (hb : ∀ b ∈ l, Blk b) : ∀ (m k i : Nat) (s : List Int), i + m = l.length → m + 210 ≤ k → InR 8 4294967296 s → sha_writer_take.l0 k l s (i : Int) = some (takes s (l.drop i))
  | 0, k, i, s, hi, hk, hs => by
    obtain ⟨k, rfl⟩ : ∃ m, k = m + 1 := ⟨k - 1, by omega⟩
    rw [List.drop_eq_nil_of_le (by omega)]
    simp only [sha_writer_take.l0]
    rw [if_neg (by omega)]
    rfl
  | m + 1, k, i, s, hi, hk, hs => by
    obtain ⟨k, rfl⟩ : ∃ m, k = m + 1 := ⟨k - 1, by omega⟩
    have hil : i < l.length := by omega
    have hB := hb l[i] (List.getElem_mem hil)
    have t := tk_ok hs hB.inR (n := k) (by omega)
    have h1 := stake_loop l hl hb m k (i + 1) (tk s l[i]) (by omega) (by omega) t.2.2
    have e1 : wrap64 ((i : Int) + 1) = ((i + 1 : Nat) : Int) := by rw [w64_id (by omega) (by omega)]; omega
    have eb : sha_writer_take.blk l (i : Int) = l[i] := by unfold sha_writer_take.blk; rw [Int.toNat_natCast, List.getD_eq_getElem?_getD, List.getElem?_eq_getElem hil]; rfl
    rw [List.drop_eq_getElem_cons hil]
    simp only [sha_writer_take.l0]
    rw [if_pos (by omega), if_pos (by omega), eb, t.1, bs, e1]
    exact h1
theorem rtake_loop (l : List (List Int)) (hl : l.length < 1000000) (hb : ∀ b ∈ l, Blk b) : ∀ (m k i : Nat) (s : List Int), i + m = l.length → m + 210 ≤ k → InR 8 4294967296 s → drawlotref05_take.l0 k l (i : Int) s = some (takes s (l.drop i))
  | 0, k, i, s, hi, hk, hs => by
    obtain ⟨k, rfl⟩ : ∃ m, k = m + 1 := ⟨k - 1, by omega⟩
    rw [List.drop_eq_nil_of_le (by omega)]
    simp only [drawlotref05_take.l0]
    rw [if_neg (by omega)]
    rfl
  | m + 1, k, i, s, hi, hk, hs => by
    obtain ⟨k, rfl⟩ : ∃ m, k = m + 1 := ⟨k - 1, by omega⟩
    have hil : i < l.length := by omega
    have hB := hb l[i] (List.getElem_mem hil)
    have t := tk_ok hs hB.inR (n := k) (by omega)
    have h1 := rtake_loop l hl hb m k (i + 1) (tk s l[i]) (by omega) (by omega) t.2.2
    have e1 : wrap64 ((i : Int) + 1) = ((i + 1 : Nat) : Int) := by rw [w64_id (by omega) (by omega)]; omega
    have eb : rd_L2 l (i : Int) = l[i] := by unfold rd_L2; rw [Int.toNat_natCast, List.getD_eq_getElem?_getD, List.getElem?_eq_getElem hil]; rfl
    rw [List.drop_eq_getElem_cons hil]
    simp only [drawlotref05_take.l0]
    rw [if_pos (by omega), if_pos (by omega), eb, t.2.1, bs, e1]
    exact h1
theorem stake_ok {k : Nat} {s b : List Int} (hs : InR 8 4294967296 s) (hb : ByteL b) (hl : b.length < 1000000) (hk : b.length / 64 + 220 ≤ k) : sha_writer_take.f k s b = some (takes s (bks b), rst b) := by
  unfold sha_writer_take.f
  rw [pcut_ok k b (by omega) hl, bs]
  show ((sha_writer_take.l0 k (bks b) s ((0 : Nat) : Int)).bind fun q => some (q, rst b)) = _
  rw [stake_loop (bks b) (by rw [bks_len]; omega) (bks_blk hb) (b.length / 64) k 0 s (by rw [bks_len]; omega) (by omega) hs, bs]
  rfl
theorem rtake_ok {k : Nat} {s b : List Int} (hs : InR 8 4294967296 s) (hb : ByteL b) (hl : b.length < 1000000) (hk : b.length / 64 + 220 ≤ k) : drawlotref05_take.f k s (bks b) = some (takes s (bks b)) := by
  unfold drawlotref05_take.f
  exact rtake_loop _ (by rw [bks_len]; omega) (bks_blk hb) (b.length / 64) k 0 s (by rw [bks_len]; omega) (by omega) hs
theorem rcut_ok' {k : Nat} {b : List Int} (hl : b.length < 1000000) (hk : b.length / 64 < k) : drawlotref02_Cut.f k b = some (bks b, rst b) := rcut_ok k b hk hl
theorem swrite_ok {k : Nat} {s r b : List Int} {n : Int} (hs : InR 8 4294967296 s) (hr : ByteL r) (hb : ByteL b) (h : (r ++ b).length < 1000000) (hk : (r ++ b).length / 64 + 220 ≤ k) (h0 : 0 ≤ n) (h1 : n < 2305843009213693952) :
    sha_writer_write.f k s r n b = some (takes s (bks (r ++ b)), rst (r ++ b), n + b.length) := by
  have hl := h
  rw [List.length_append] at hl
  unfold sha_writer_write.f bytes_Clone.f
  rw [bs, if_pos (by simp; omega), bs, List.nil_append, if_pos (by omega), stake_ok hs (hr.app hb) h hk, bs, u64w_id (x := (b.length : Int)) (by omega) (by omega), u64w_id (by omega) (by omega)]
def outF (s r : List Int) (n : Int) (t : List Int) : List Int × List Int × Int × Int := if n + (t.length : Int) ≥ 2305843009213693952 then (List.replicate 8 0, [], 0, 11) else (takes s (bks (r ++ t)), rst (r ++ t), n + t.length, 0)
theorem sWrite_loop (l : List (List Int)) (hl : l.length ≤ 20) (h5 : ∀ b ∈ l, b.length ≤ 500 ∧ ByteL b) : ∀ (m k i : Nat) (s r : List Int) (n : Int), i + m = l.length → m + 400 ≤ k → InR 8 4294967296 s → r.length < 64 → ByteL r → 0 ≤ n → n < 2305843009213693952 →
    sha_Write.l0 k s r n l (i : Int) = some (outF s r n (l.drop i).flatten)
  | 0, k, i, s, r, n, hi, hk, hs, hr, hrb, h0, h1 => by
    obtain ⟨k, rfl⟩ : ∃ m, k = m + 1 := ⟨k - 1, by omega⟩
    rw [List.drop_eq_nil_of_le (by omega)]
    simp only [sha_Write.l0]
    rw [if_neg (by omega)]
    unfold outF
    rw [if_neg (by simp; omega)]
    simp only [List.flatten_nil, List.append_nil, bks_short hr, rst_short hr, List.length_nil]
    simp [takes]
  | m + 1, k, i, s, r, n, hi, hk, hs, hr, hrb, h0, h1 => by
    obtain ⟨k, rfl⟩ : ∃ m, k = m + 1 := ⟨k - 1, by omega⟩
    have hil : i < l.length := by omega
    obtain ⟨hB, hBb⟩ := h5 l[i] (List.getElem_mem hil)
    have e1 : wrap64 ((i : Int) + 1) = ((i + 1 : Nat) : Int) := by rw [w64_id (by omega) (by omega)]; omega
    have eb : sha_Write.row l (i : Int) = l[i] := by unfold sha_Write.row; rw [Int.toNat_natCast, List.getD_eq_getElem?_getD, List.getElem?_eq_getElem hil]; rfl
    have hw := swrite_ok (k := k) (n := n) hs hrb hBb (by rw [List.length_append]; omega) (by rw [List.length_append]; omega) h0 h1
    rw [List.drop_eq_getElem_cons hil, List.flatten_cons]
    simp only [sha_Write.l0]
    rw [if_pos (by omega), if_pos (by omega), eb, hw, bs]
    by_cases hm : n + (l[i].length : Int) ≥ 2305843009213693952
    · rw [if_pos hm]
      unfold outF
      rw [if_pos (by rw [List.length_append]; omega)]
    · rw [if_neg hm, e1]
      dsimp only
      have hrl : (rst (r ++ l[i])).length < 64 := by rw [rst_len]; omega
      rw [sWrite_loop l hl h5 m k (i + 1) (takes s (bks (r ++ l[i]))) (rst (r ++ l[i])) (n + (l[i].length : Int)) (by omega) (by omega) (takes_in hs (bks_blk (hrb.app hBb))) hrl ((hrb.app hBb).drop _) (by omega) (by omega)]
      unfold outF
      simp only [List.length_append]
      rw [show n + (l[i].length : Int) + ((l.drop (i + 1)).flatten.length : Int) = n + ((l[i].length + (l.drop (i + 1)).flatten.length : Nat) : Int) by omega, ← takes_app, ← List.append_assoc r, ← bks_app, ← rst_app]
theorem sright_ok (r : List Int) {n : Int} (h0 : 0 ≤ n) (h1 : n < 18446744073709551616) (hr : r.length < 1000000) (a0 : List Int) : sha_Right.f a0 r n = some (decide (n < 2305843009213693952 ∧ (r.length : Int) = n % 64)) := by
  unfold sha_Right.f
  have e : Go.bits .and .u64 n 63 = n % 64 := bits_mask .u64 64 (by decide) (fun m a b => u64w_id a b) 6 (by decide) n h0 h1
  by_cases h : n < 2305843009213693952
  · rw [if_pos h, e, u64w_id (by omega) (by omega)]
    rw [Option.some.injEq, Bool.eq_iff_iff]
    simp [h]
  · rw [if_neg h]
    simp [h]
def wrF (s r : List Int) (n : Int) (t : List Int) : List Int × List Int × Int × Int := if n < 2305843009213693952 ∧ (r.length : Int) = n % 64 then outF s r n t else (List.replicate 8 0, [], 0, 1)
theorem sWrite_ok {k : Nat} (hk : 500 ≤ k) {s r : List Int} {n : Int} (hs : InR 8 4294967296 s) (hr : ByteL r) (h0 : 0 ≤ n) (h1 : n < 18446744073709551616) (hl : r.length < 1000000) {l : List (List Int)} (h20 : l.length ≤ 20) (h5 : ∀ b ∈ l, b.length ≤ 500 ∧ ByteL b) :
    sha_Write.f k s r n l = some (wrF s r n l.flatten) := by
  unfold sha_Write.f wrF
  rw [sright_ok r h0 h1 hl, bs]
  by_cases h : n < 2305843009213693952 ∧ (r.length : Int) = n % 64
  · rw [if_pos (decide_eq_true h), if_pos h, show (0 : Int) = ((0 : Nat) : Int) from rfl, sWrite_loop l h20 h5 l.length k 0 s r n (by omega) (by omega) hs (by omega) hr h0 h.1, List.drop_zero]
  · rw [if_neg (by simpa using h), if_neg h]
theorem flat_len {l : List (List Int)} (h20 : l.length ≤ 20) (h5 : ∀ b ∈ l, b.length ≤ 500 ∧ ByteL b) : l.flatten.length ≤ 10000 := by
  have : ∀ (l : List (List Int)), (∀ b ∈ l, b.length ≤ 500 ∧ ByteL b) → l.flatten.length ≤ 500 * l.length := by
    intro l
    induction l with
    | nil => intro _; simp
    | cons a l ih =>
      intro h
      have := ih (fun b hb => h b (List.mem_cons_of_mem _ hb))
      have := (h a (List.mem_cons_self ..)).1
      rw [List.flatten_cons, List.length_append, List.length_cons]
      omega
  have := this l h5
  omega
theorem flat_byte {l : List (List Int)} (h5 : ∀ b ∈ l, b.length ≤ 500 ∧ ByteL b) : ByteL l.flatten := fun x hx => by
  obtain ⟨b, hb, hxb⟩ := List.mem_flatten.1 hx
  exact (h5 b hb).2 x hxb
end Go.Proofs.YtkcdcbiobkcpmaaDoor.Lm
end
section
namespace Go.Proofs.YtkcdcbiobkcpmaaDoor.Lm
open Go.RowKit Go.Proofs.YtkcdcbiobkcpmaaDoor.PA Go.Proofs.YtkcdcbiobkcpmaaDoorW.PrintWords Go.Proofs.YtkcdcbiobkcpmaaDoorW.PrintLast
def w4 (x : Int) : List Int := [x / 16777216 % 256, x / 65536 % 256, x / 256 % 256, x % 256]
def hashF (s : List Int) : List Int := w4 (Ar.get 8 s 0) ++ w4 (Ar.get 8 s 1) ++ w4 (Ar.get 8 s 2) ++ w4 (Ar.get 8 s 3) ++ w4 (Ar.get 8 s 4) ++ w4 (Ar.get 8 s 5) ++ w4 (Ar.get 8 s 6) ++ w4 (Ar.get 8 s 7)
theorem put32_ok {x : Int} (h0 : 0 ≤ x) (_h1 : x < 4294967296) : drawlotref01_Put32.f x = some (w4 x) := by
  unfold drawlotref01_Put32.f w4
  rw [Int.tdiv_eq_ediv_of_nonneg h0, Int.tdiv_eq_ediv_of_nonneg h0, Int.tdiv_eq_ediv_of_nonneg h0, Int.tmod_eq_emod_of_nonneg h0]
  simp only [Option.some.injEq, List.cons.injEq, and_true]
  refine ⟨?_, ?_, ?_⟩ <;> omega
theorem shash9 (s : List Int) : sha_writer_hash.f 9 s = some (hashF s) := by kernel_rfl
theorem shash_ok {k : Nat} (hk : 9 ≤ k) (s : List Int) : sha_writer_hash.f k s = some (hashF s) := at_rounds (g := fun k => sha_writer_hash.f k s) (fun k => sha_writer_hash.mono s k) (k := 9) (k' := k) hk (shash9 s)
theorem rl1 (k : Nat) (i : Nat) (hi : i < 8) (s h t : List Int) : drawlotref05_hash.l1 (k + 5) (i : Int) 0 s h t = drawlotref05_hash.l0 k ((i + 1 : Nat) : Int) s (Ar.set 32 (Ar.set 32 (Ar.set 32 (Ar.set 32 h (4 * i) (Ar.get 4 t 0)) (4 * i + 1) (Ar.get 4 t 1)) (4 * i + 2) (Ar.get 4 t 2)) (4 * i + 3) (Ar.get 4 t 3)) := by
  have e : wrap64 (4 * (i : Int)) = 4 * i := w64_id (by omega) (by omega)
  have e0 : wrap64 (4 * (i : Int) + 0) = 4 * i := by rw [w64_id (by omega) (by omega)]; omega
  have e1 : wrap64 (4 * (i : Int) + 1) = 4 * i + 1 := w64_id (by omega) (by omega)
  have e2 : wrap64 (4 * (i : Int) + 2) = 4 * i + 2 := w64_id (by omega) (by omega)
  have e3 : wrap64 (4 * (i : Int) + 3) = 4 * i + 3 := w64_id (by omega) (by omega)
  have en : wrap64 ((i : Int) + 1) = ((i + 1 : Nat) : Int) := by rw [w64_id (by omega) (by omega)]; omega
  have z1 : wrap64 ((0 : Int) + 1) = 1 := by rw [w64_id (by omega) (by omega)]; rfl
  have z2 : wrap64 ((1 : Int) + 1) = 2 := by rw [w64_id (by omega) (by omega)]; rfl
  have z3 : wrap64 ((2 : Int) + 1) = 3 := by rw [w64_id (by omega) (by omega)]; rfl
  have z4 : wrap64 ((3 : Int) + 1) = 4 := by rw [w64_id (by omega) (by omega)]; rfl
  simp only [drawlotref05_hash.l1, e, e0, e1, e2, e3, z1, z2, z3, z4]
  rw [if_pos (by omega), if_pos (by omega), if_pos (by omega), if_pos (by omega), if_pos (by omega), if_pos (by omega), if_pos (by omega), if_pos (by omega), if_pos (by omega), if_pos (by omega), if_pos (by omega), if_pos (by omega), if_pos (by omega), if_pos (by omega), if_pos (by omega), if_pos (by omega), if_neg (by omega), en]
def setw4 (h : List Int) (i : Int) (t : List Int) : List Int := Ar.set 32 (Ar.set 32 (Ar.set 32 (Ar.set 32 h (4 * i) (Ar.get 4 t 0)) (4 * i + 1) (Ar.get 4 t 1)) (4 * i + 2) (Ar.get 4 t 2)) (4 * i + 3) (Ar.get 4 t 3)
theorem rl0 (k : Nat) (i : Nat) (hi : i < 8) {s : List Int} (hs : InR 8 4294967296 s) (h : List Int) : drawlotref05_hash.l0 (k + 6) (i : Int) s h = drawlotref05_hash.l0 k ((i + 1 : Nat) : Int) s (setw4 h i (w4 (Ar.get 8 s i))) := by
  rw [drawlotref05_hash.l0, if_pos (by omega), if_pos (by omega), put32_ok (hs _).1 (hs _).2, bs, rl1 k i hi]
  rfl
theorem rhash_ok {k : Nat} (hk : 60 ≤ k) {s : List Int} (hs : InR 8 4294967296 s) : drawlotref05_hash.f k s = some (hashF s) := by
  obtain ⟨k, rfl⟩ : ∃ m, k = m + 1 + 6 + 6 + 6 + 6 + 6 + 6 + 6 + 6 := ⟨k - 49, by omega⟩
  unfold drawlotref05_hash.f
  show drawlotref05_hash.l0 _ ((0 : Nat) : Int) s _ = _
  rw [rl0 _ 0 (by omega) hs, rl0 _ 1 (by omega) hs, rl0 _ 2 (by omega) hs, rl0 _ 3 (by omega) hs, rl0 _ 4 (by omega) hs, rl0 _ 5 (by omega) hs, rl0 _ 6 (by omega) hs, rl0 _ 7 (by omega) hs, drawlotref05_hash.l0, if_neg (by omega)]
  kernel_rfl
def fiF (s r : List Int) (n : Int) : List Int × Int := if n < 2305843009213693952 ∧ (r.length : Int) = n % 64 then (hashF (takes s (bks (tailF r n))), 0) else (List.replicate 32 0, 1)
theorem tailF_byte {r : List Int} (hr : ByteL r) (n : Int) : ByteL (tailF r n) := by
  unfold tailF
  refine hr.app fun x hx => ?_
  rcases List.mem_cons.1 hx with rfl | hx
  · omega
  · rcases List.mem_append.1 hx with h | h
    · have := (List.mem_replicate.1 h).2; omega
    · exact be8_byte _ x h
theorem tailF_len (r : List Int) (n : Int) (h : r.length < 64) : (tailF r n).length ≤ 200 := by
  unfold tailF zerosF
  simp only [List.length_append, List.length_cons, List.length_replicate, be8_len]
  split <;> omega
theorem sFinish_ok {k : Nat} (hk : 300 ≤ k) {s r : List Int} {n : Int} (hs : InR 8 4294967296 s) (hr : ByteL r) (h0 : 0 ≤ n) (h1 : n < 18446744073709551616) (hl : r.length < 20000) : sha_Finish.f k s r n = some (fiF s r n) := by
  unfold sha_Finish.f fiF
  have ht := ptail_ok k (by omega) r n h0 h1 (by omega)
  by_cases h : n < 2305843009213693952 ∧ (r.length : Int) = n % 64
  · rw [if_neg (by omega)] at ht
    have := tailF_len r n (by omega)
    rw [if_pos h, ht, bs, if_pos rfl]
    dsimp only
    rw [stake_ok hs (tailF_byte hr n) (by omega) (by omega), bs, shash_ok (by omega), bs]
  · rw [if_pos (by omega)] at ht
    rw [if_neg h, ht, bs, if_neg (by decide)]
    rfl
end Go.Proofs.YtkcdcbiobkcpmaaDoor.Lm
end
section
namespace Go.Proofs.YtkcdcbiobkcpmaaDoor.Lm
open Go.RowKit Go.Proofs.YtkcdcbiobkcpmaaDoor.PA Go.Proofs.YtkcdcbiobkcpmaaDoorW.PrintWords Go.Proofs.YtkcdcbiobkcpmaaDoorW.PrintLast
theorem rjoin_loop (l : List (List Int)) (hl : l.length ≤ 20) (h5 : ∀ b ∈ l, b.length ≤ 500 ∧ ByteL b) : ∀ (m k i : Nat) (acc : List Int), i + m = l.length → m < k → acc.length ≤ 500 * i → drawlotref05_Join.l0 k l acc (i : Int) = some (acc ++ (l.drop i).flatten)
  | 0, k, i, acc, hi, hk, _ => by
    obtain ⟨k, rfl⟩ : ∃ m, k = m + 1 := ⟨k - 1, by omega⟩
    rw [List.drop_eq_nil_of_le (by omega)]
    simp only [drawlotref05_Join.l0]
    rw [if_neg (by omega), List.flatten_nil, List.append_nil]
  | m + 1, k, i, acc, hi, hk, ha => by
    obtain ⟨k, rfl⟩ : ∃ m, k = m + 1 := ⟨k - 1, by omega⟩
    have hil : i < l.length := by omega
    have hB := (h5 l[i] (List.getElem_mem hil)).1
    have e1 : wrap64 ((i : Int) + 1) = ((i + 1 : Nat) : Int) := by rw [w64_id (by omega) (by omega)]; omega
    have eb : rd_L1 l (i : Int) = l[i] := by unfold rd_L1; rw [Int.toNat_natCast, List.getD_eq_getElem?_getD, List.getElem?_eq_getElem hil]; rfl
    rw [List.drop_eq_getElem_cons hil, List.flatten_cons, ← List.append_assoc]
    simp only [drawlotref05_Join.l0]
    rw [if_pos (by omega), if_pos (by omega), eb, if_pos (by omega), e1]
    exact rjoin_loop l hl h5 m k (i + 1) (acc ++ l[i]) (by omega) (by omega) (by rw [List.length_append]; omega)
theorem rjoin_ok {k : Nat} (hk : 30 ≤ k) {l : List (List Int)} (hl : l.length ≤ 20) (h5 : ∀ b ∈ l, b.length ≤ 500 ∧ ByteL b) : drawlotref05_Join.f k l = some l.flatten := by
  unfold drawlotref05_Join.f
  have h := rjoin_loop l hl h5 l.length k 0 [] (by omega) (by omega) (by simp)
  rw [List.drop_zero, List.nil_append] at h
  exact h
theorem great_loop (l : List (List Int)) (hl : l.length ≤ 20) : ∀ (m k i : Nat), i + m = l.length → m < k → drawlotref05_Great.l0 k l (i : Int) = some ((l.drop i).any (fun x => decide (500 < x.length)))
  | 0, k, i, hi, hk => by
    obtain ⟨k, rfl⟩ : ∃ m, k = m + 1 := ⟨k - 1, by omega⟩
    rw [List.drop_eq_nil_of_le (by omega)]
    simp only [drawlotref05_Great.l0]
    rw [if_neg (by omega), List.any_nil]
  | m + 1, k, i, hi, hk => by
    obtain ⟨k, rfl⟩ : ∃ m, k = m + 1 := ⟨k - 1, by omega⟩
    have hil : i < l.length := by omega
    have e1 : wrap64 ((i : Int) + 1) = ((i + 1 : Nat) : Int) := by rw [w64_id (by omega) (by omega)]; omega
    have eb : rd_L1 l (i : Int) = l[i] := by unfold rd_L1; rw [Int.toNat_natCast, List.getD_eq_getElem?_getD, List.getElem?_eq_getElem hil]; rfl
    rw [List.drop_eq_getElem_cons hil, List.any_cons]
    simp only [drawlotref05_Great.l0]
    rw [if_pos (by omega), if_pos (by omega), eb]
    by_cases h : ((l[i]).length : Int) > 500
    · rw [if_pos h, decide_eq_true (show 500 < (l[i]).length by omega), Bool.true_or]
    · rw [if_neg h, decide_eq_false (show ¬ 500 < (l[i]).length by omega), Bool.false_or, e1]
      exact great_loop l hl m k (i + 1) (by omega) (by omega)
theorem great_ok {k : Nat} (hk : 30 ≤ k) (l : List (List Int)) : ∃ b, drawlotref05_Great.f k l = some b ∧ (b = false → l.length ≤ 20 ∧ ∀ x ∈ l, x.length ≤ 500) := by
  unfold drawlotref05_Great.f
  by_cases h : (l.length : Int) > 20
  · exact ⟨true, by rw [if_pos h], fun e => by cases e⟩
  · refine ⟨l.any (fun x => decide (500 < x.length)), ?_, fun e => ⟨by omega, fun x hx => ?_⟩⟩
    · rw [if_neg h]
      have := great_loop l (by omega) l.length k 0 (by omega) (by omega)
      rw [List.drop_zero] at this
      exact this
    · have := List.any_eq_false.1 e x hx
      have := of_decide_eq_false (by simpa using this : decide (500 < x.length) = false)
      omega
def H0 : List Int := [1779033703, 3144134277, 1013904242, 2773480762, 1359893119, 2600822924, 528734635, 1541459225]
theorem H0_in : InR 8 4294967296 H0 := InR.of_mem (by decide) rfl (by decide)
def sumF (t : List Int) : List Int := hashF (takes H0 (bks t ++ bks (tailF (rst t) t.length)))
theorem sSum_ok {k : Nat} (hk : 1000 ≤ k) {l : List (List Int)} (h20 : l.length ≤ 20) (h5 : ∀ b ∈ l, b.length ≤ 500 ∧ ByteL b) : sha_Sum.f k l = some (sumF l.flatten) := by
  have hf := flat_len h20 h5
  have hb := flat_byte h5
  unfold sha_Sum.f
  rw [show sha_New.f = some (H0, [], 0) from rfl, bs]
  dsimp only
  rw [sWrite_ok (by omega) H0_in ByteL.nil (by omega) (by omega) (by simp) h20 h5, bs]
  have hw : wrF H0 [] 0 l.flatten = (takes H0 (bks l.flatten), rst l.flatten, (l.flatten.length : Int), 0) := by
    unfold wrF outF
    rw [if_pos ⟨by omega, by simp⟩, if_neg (by omega), List.nil_append, Int.zero_add]
  rw [hw]
  dsimp only
  rw [sFinish_ok (by omega) (takes_in H0_in (bks_blk hb)) (show ByteL (rst l.flatten) from hb.drop _) (by omega) (by omega) (by rw [rst_len]; omega), bs]
  unfold fiF sumF
  rw [if_pos ⟨by omega, by rw [rst_len]; omega⟩, takes_app]
theorem bks_pad (t : List Int) (h : t.length < 100000) : bks (padF t) = bks t ++ bks (tailF (rst t) t.length) := by
  unfold padF tailF
  rw [bks_app, rst_len, u64w_id (by omega) (by omega)]
theorem rSum_ok {k : Nat} (hk : 1000 ≤ k) {t : List Int} (ht : t.length ≤ 20000) (hb : ByteL t) : drawlotref05_Sum.f k t = some (sumF t) := by
  unfold drawlotref05_Sum.f
  have hl := padF_len t
  have hpb : ByteL (padF t) := padF_byte hb
  rw [rpad_ok k (by omega) t (by omega), bs, rcut_ok' (by omega) (by omega), bs, show drawlotref04_Start.f = some H0 from rfl, bs]
  dsimp only
  rw [rtake_ok H0_in hpb (by omega) (by omega), bs, rhash_ok (by omega) (takes_in H0_in (bks_blk hpb)), bs, bks_pad t (by omega)]
  rfl
end Go.Proofs.YtkcdcbiobkcpmaaDoor.Lm
end
section
namespace Go.Proofs.YtkcdcbiobkcpmaaDoor.Pure
open Go.RowKit Go.Proofs.YtkcdcbiobkcpmaaDoor.PA Go.Proofs.YtkcdcbiobkcpmaaDoorW.PrintWords Go.Proofs.YtkcdcbiobkcpmaaDoorW.PrintLast Go.Proofs.YtkcdcbiobkcpmaaDoor.Lm
theorem ShaSums : drawlotlaw05_ShaSums.Pure := by
  intro l hl
  refine ⟨2000, ?_⟩
  unfold drawlotlaw05_ShaSums.f
  obtain ⟨b, hg, hb⟩ := great_ok (k := 2000) (by omega) l
  rw [alive05 _ (by omega), bs, if_pos rfl, hg, bs]
  cases b with
  | true => rw [if_pos rfl]
  | false =>
    obtain ⟨h20, h500⟩ := hb rfl
    have h5 : ∀ x ∈ l, x.length ≤ 500 ∧ ByteL x := fun x hx => ⟨h500 x hx, fun y hy => wf8 ((hl.2 x hx).2 y hy)⟩
    rw [if_neg (by decide), sSum_ok (by omega) h20 h5, bs, rjoin_ok (by omega) h20 h5, bs, rSum_ok (by omega) (by have := flat_len h20 h5; omega) (flat_byte h5), bs, eqb_self]
end Go.Proofs.YtkcdcbiobkcpmaaDoor.Pure
end
section
namespace Go.Proofs.YtkcdcbiobkcpmaaDoor.Opn
open Go.RowKit Go.Deep Go.ChangeShapes Go.WideShapes Go.Proofs.YtkcdcbiobkcpmaaDoorW.PrintWords
section
variable {H : Type} {enc : TypeId × Value → H} {P : Program} {w : World} {base : Nat} {spare : Nat → Bool} {held : Bool}
def Opens (enc : TypeId × Value → H) (P : Program) (w : World) (base : Nat) (spare : Nat → Bool) (held : Bool) {α : Type} (d : Kd α) (t : TypeId) (wf : α → Prop) : Prop :=
  ∀ (fuel : Nat) (cs : List Value) (y : DataW H × List MemPlace), DataW.trod enc P w base spare held fuel t cs = some y → ∃ x, d.K w x cs ∧ wf x
theorem opens_int {k : IntKind} {t : TypeId} (ht : P.underlying t = some (.int k)) : Opens enc P w base spare held (Kd.int k) t (fun z => (Lit.int k z).wf = true) := fun fuel cs y h => by
  obtain ⟨z, hz, _, hw⟩ := DataW.trod_int ht h
  exact ⟨z, hz, hw⟩
theorem open_row {α : Type} {d : Kd α} {wf : α → Prop} {t e : TypeId} (ht : P.underlying t = some (.slice e)) (hsz : P.cellsOf e = d.sz) (hel : Opens enc P w base spare held d e wf) {fuel : Nat} {cs : List Value} {y : DataW H × List MemPlace}
    (h : DataW.trod enc P w base spare held fuel t cs = some y) : ∃ (A : Option Addr) (c : Nat) (xs : List α), cs = [.slice A xs.length c] ∧ Kd.C d w A xs.length xs ∧ xs.length ≤ c ∧ (xs.length ≤ maxLen ∧ ∀ x ∈ xs, wf x) := by
  rcases open_slice ht h with ⟨h0, _⟩ | ⟨a, len, cap, m, n, D, Pl, hcs, _, hl, hm, hmm, _, hi⟩
  · exact ⟨none, 0, [], h0, ⟨rfl, by simp, fun hn => by simp at hn⟩, Nat.le_refl _, by unfold maxLen; simp, fun x hx => by cases hx⟩
  · have hlm : len ≤ m := by rw [hmm]; split <;> omega
    have hx : ∀ i : Fin len, ∃ x, (∃ cs', w.cells? base (a.add (i.1 * P.cellsOf e)) (P.cellsOf e) = some cs' ∧ d.K w x cs') ∧ wf x := fun i => by
      obtain ⟨cs', hc, ht'⟩ := hi i.1 (by have := i.2; omega)
      obtain ⟨x, hk, hw⟩ := hel _ _ _ ht'
      exact ⟨x, ⟨cs', hc, hk⟩, hw⟩
    refine ⟨some a, cap, List.ofFn fun i : Fin len => Classical.choose (hx i), ?_, ⟨rfl, ?_, fun _ => ⟨a, rfl, fun j p hj => ?_⟩⟩, ?_, ?_, fun x hxm => ?_⟩
    · rw [List.length_ofFn]; exact hcs
    · rw [List.length_ofFn]; unfold maxLen at hm; omega
    · obtain ⟨hjl, hp⟩ := List.getElem?_eq_some_iff.1 hj
      rw [List.length_ofFn] at hjl
      rw [List.getElem_ofFn] at hp
      subst hp
      obtain ⟨⟨cs', hc, hk⟩, _⟩ := Classical.choose_spec (hx ⟨j, hjl⟩)
      obtain ⟨_, hcl, hat⟩ := World.cells?_some hc
      refine ⟨cs', d.K_len hk, hk, fun i u hu => ?_⟩
      have hil : i < P.cellsOf e := by rw [← hcl]; exact (List.getElem?_eq_some_iff.1 hu).1
      have := hat i hil
      rw [Go.Deep.add_add, hsz] at this
      rw [this]; exact hu
    · rw [List.length_ofFn]; exact hl
    · rw [List.length_ofFn]; omega
    · obtain ⟨i, hil, he⟩ := List.mem_iff_getElem.1 hxm
      rw [List.getElem_ofFn] at he
      subst he
      exact (Classical.choose_spec (hx _)).2
theorem opens_slice {α : Type} {d : Kd α} {wf : α → Prop} {t e : TypeId} (ht : P.underlying t = some (.slice e)) (hsz : P.cellsOf e = d.sz) (hel : Opens enc P w base spare held d e wf) :
    Opens enc P w base spare held (Kd.slice e d) t (fun xs => xs.length ≤ maxLen ∧ ∀ x ∈ xs, wf x) := fun fuel cs y h => by
  obtain ⟨A, c, xs, rfl, hr, hl, hw⟩ := open_row ht hsz hel h
  exact ⟨xs, ⟨A, c, rfl, hl, hr⟩, hw⟩
end
end Go.Proofs.YtkcdcbiobkcpmaaDoor.Opn
end
section
namespace Go.Proofs.YtkcdcbiobkcpmaaDoor.shaSums
open Go.ChangeShapes Go.WideShapes Go.ChangeAt Go.RowKit
open Go.ChangeMaps (open_string shut_string)
set_option linter.unusedVariables false
theorem own : ownKnob Tryd.prog.godebug = none := by kernel_rfl
theorem laidOut : laidOutB Tryd.prog = true := by kernel_rfl
def IsRow (k : IntKind) (w : World) (a : Option Addr) (len cap : Nat) (zs : List Int) : Prop :=
  (a = none ∧ len = 0 ∧ cap = 0 ∧ zs = []) ∨
  ∃ x, a = some x ∧ len ≤ cap ∧ cap ≤ maxLen ∧ zs.length = cap ∧ (∀ i, i < zs.length → w.cell? (x.add i) = some (.int k (zs.getD i 0))) ∧ ∀ n ∈ zs, (Lit.int k n).wf = true
theorem door_met (os : Os) (args : Array Value) : laidMetH Tryd.prog Rows.shaSumsRow.laid ((World.laidAll Tryd.prog os Rows.shaSumsRow.laid).forCall (fun _ _ => 0) ⟨#[], args, []⟩).memory := by
  rw [MakeChecks.laidMetH_plain _ _ _ (by kernel_rfl)]
  exact laidMet_laidAll _ (by kernel_rfl) (by kernel_rfl)
set_option maxRecDepth 100000 in
theorem lifted (os : Os) (started : os.Started) (H : Type) (enc : TypeId × Value → H) :
    ReturnsInHanded {} Tryd.checked os 3 .any (fun w args => (Rows.shaSumsSpec.pre enc Tryd.prog Tryd.f3 Rows.shaSumsRow.domain false w args ∧ laidMetH Tryd.prog Rows.shaSumsRow.laid w) ∧ sizedMet enc Tryd.prog Tryd.f3 (OpenSpec.ofChange Rows.shaSumsSpec) false w args) (Rows.shaSumsSpec.post enc Tryd.prog Tryd.f3 false true false false) := by
  refine returnsInHanded_of_change_and (C := Tryd.checked) (X := (fun w _ => laidMetH Tryd.prog Rows.shaSumsRow.laid w)) (fun _ _ _ hh h => h.of_heap hh) own started (by kernel_rfl) Tryd.func3
    (ChangeSpec.witness_shaped (enc := enc) (C := Tryd.checked) (os := os) (X := (fun w _ => laidMetH Tryd.prog Rows.shaSumsRow.laid w)) false (World.laidAll Tryd.prog os Rows.shaSumsRow.laid) #[.slice none 0 0] 8 (World.laidAll_os _ _ _) (World.shaped_of_ZipB (by kernel_rfl) (by kernel_rfl)) (by kernel_rfl) (by kernel_rfl) (by kernel_rfl) (door_met os _)) ?_
  intro W base args ds gs before hval0 hW hcnd hsz0 hL _
  clear hL
  have hsz : (DataW.weightsEach Tryd.prog (Tryd.f3.params.toList ++ Rows.shaSumsSpec.plain.varTypes Tryd.prog) (ds ++ gs)).all (· ≤ reachBytes) = true := hsz0
  have hval : ∀ (j : Nat) t v, Tryd.f3.params[j]? = some t → args[j]? = some v → Value.okWide Tryd.prog W .any base t v := hval0
  have hW' := hW
  obtain ⟨p, q, hA0, hV, rfl, hfz, hnd⟩ := hW
  have hA : DataW.TrodAll enc Tryd.prog W 0 (fun _ => true) true Tryd.f3.params.toList args.toList ds p := hA0
  rw [Tryd.params3] at hA hval hsz
  obtain ⟨v0, vs0, d0, ds0, p0, q0, hargs, rfl, rfl, h0, r0⟩ := trodAll_cons hA
  obtain ⟨rfl, rfl, rfl⟩ := trodAll_nil r0
  obtain rfl : args = #[v0] := by cases args; simp_all
  obtain ⟨rfl, rfl⟩ := trodVars_none hV
  have kk0 := h0
  have lt0 : ∀ x ∈ p0, x.block < W.heap.size := by obtain ⟨m, hm⟩ := kk0; exact DataW.trod_lt m _ _ _ hm
  obtain ⟨A0, c0, l0, e0, w0⟩ : ∃ (A0 : Option Addr) (c0 : Nat) (l0 : List (List Int)), v0 = .slice A0 l0.length c0 ∧ Go.Proofs.YtkcdcbiobkcpmaaDoorW.PrintWords.Kd.C (Go.Proofs.YtkcdcbiobkcpmaaDoorW.PrintWords.Kd.slice 5 (Go.Proofs.YtkcdcbiobkcpmaaDoorW.PrintWords.Kd.int .u8)) W A0 l0.length l0 ∧ l0.length ≤ c0 ∧ (l0.length ≤ maxLen ∧ ∀ x ∈ l0, (x.length ≤ maxLen ∧ ∀ x_ ∈ x, (Lit.int .u8 x_).wf = true)) := by
    obtain ⟨a_, len_, cap_, rfl⟩ := okWide_slice Tryd.underlying22 (hval 0 22 v0 rfl rfl)
    obtain ⟨fuel, hf⟩ := h0
    obtain ⟨A, c, xs, he, hr, hl, hw⟩ := Opn.open_row (wf := fun x : List Int => (x.length ≤ maxLen ∧ ∀ x_ ∈ x, (Lit.int .u8 x_).wf = true)) Tryd.underlying22 (by kernel_rfl) (Opn.opens_slice Tryd.underlying29 (by kernel_rfl) (Opn.opens_int Tryd.underlying5)) hf
    exact ⟨A, c, xs, by simpa [Value.cells] using he, hr, hl, hw⟩
  subst e0
  clear hA0 hval0 hsz0 hsz
  refine (PA.drawlotlaw05_ShaSums.walk Pure.ShaSums A0 c0 l0 W w0).mono fun e W' ⟨he, bel⟩ => ?_
  subst he
  exact ⟨_, rfl, _, _, _, [], _, [], hW', trodAll_mk1 (shut_bool Tryd.underlying4 _), (trodAll_cons_mk (Below.trod laidOut (by kernel_rfl) (of_decide_eq_true (by kernel_rfl)) kk0 bel lt0) trodAll_mk0), rfl, bel.frame _, fun h => by cases h⟩
theorem over : Rows.shaSumsRow.holds Tryd.pinned (OpenSpec.ofChange Rows.shaSumsSpec) :=
  OpenClaim.holds_of_wide 3 Tryd.f3 rfl rfl rfl rfl rfl rfl rfl ⟨rfl, rfl, rfl, rfl, rfl⟩ rfl rfl rfl rfl rfl (by kernel_rfl) Tryd.func3 (by kernel_rfl)
    (of_decide_eq_true (by kernel_rfl)) (by unfold Func.isWrapper; first | (rw [if_pos (by decide +kernel)]; kernel_rfl) | (rw [if_neg (by decide +kernel)]; exact ⟨rfl, rfl⟩))
    (fun os started H enc _ => lifted os started H enc)
theorem proved : Rows.ShaSumsCardSaid :=
  Claim7.holds_tied_plain_at .later [] [.data, .pinned] true (true, "311753296e7158f837a4b53852611107cba6fa893b0917bfdbf65c92a330119a") false
    over (fun _ h => by cases h) (by kernel_rfl) (fun _ h => by cases h) shaSums_row_tie rfl ⟨rfl, rfl⟩ (by kernel_rfl) rfl
    (fun f fn hf hfn => by
      obtain rfl : f = 3 := Option.some.inj ((show Tryd.prog.funcNamed "drawlot/drawlotlaw05.ShaSums" = some 3 by kernel_rfl).symm.trans hf) |>.symm
      obtain rfl : fn = Tryd.f3 := (Option.some.inj (Tryd.func3.symm.trans hfn)).symm
      exact ⟨by kernel_rfl, fun j t ht => by
        rw [Tryd.params3] at ht
        have hm : t ∈ [22] := by simpa using Array.mem_of_getElem? ht
        have hall : ([22].all fun u => !Tryd.prog.wantsStandIn u) = true := by kernel_rfl
        exact (show Tryd.prog.wantsStandIn t = false by simpa using List.all_eq_true.1 hall t hm)⟩)
    (by kernel_rfl)
#print axioms proved
end Go.Proofs.YtkcdcbiobkcpmaaDoor.shaSums
namespace Go.Proofs.YtkcdcbiobkcpmaaDoor
theorem shaSums_holds : Rows.ShaSumsCardSaid := shaSums.proved
end Go.Proofs.YtkcdcbiobkcpmaaDoor
end
