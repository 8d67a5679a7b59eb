/- The fixed fact on the numbers, and small helps, in plain Lean. No conditions. -/
import Derived.Test.YtgfkclgpphnjfaaDoorPNx6
import Derived.Test.YtgfkclgpphnjfaaDoorLmBigT
namespace Go.Proofs.YtgfkclgpphnjfaaDoor.Lm
open Go.RowKit Go.Proofs.YtgfkclgpphnjfaaDoorW.PrintWords Go.Proofs.YtgfkclgpphnjfaaDoor.PN

theorem Lim.of_wf {l : List Int} (h : ∀ x ∈ l, (Lit.int .u32 x).wf = true) : Lim l := fun x hx => by have := bounds_u32 (h x hx); omega
theorem add_two {a b : Int} (ha : 0 ≤ a) (hb : 0 ≤ b) (la : (nl a).length ≤ 256) (lb : (nl b).length ≤ 256) (lab : (nl (a + b)).length ≤ 256) : addF [nl a, nl b] = (nl (a + b), 0) := by
  unfold addF
  rw [if_pos (by simp only [List.all_cons, List.all_nil, rb_nl ha la, rb_nl hb lb, Bool.and_true])]
  simp only [sF, vl_nl ha, vl_nl hb, Int.zero_add]
  rw [if_neg (by omega), if_neg (by omega)]
theorem mul_two {a b : Int} (ha : 0 ≤ a) (hb : 0 ≤ b) (la : (nl a).length ≤ 256) (lb : (nl b).length ≤ 256) (lab : (nl (a * b)).length ≤ 256) : mulF [nl a, nl b] = (nl (a * b), 0) := by
  unfold mulF
  rw [if_pos (by simp only [List.all_cons, List.all_nil, rb_nl ha la, rb_nl hb lb, Bool.and_true])]
  simp only [pF, vl_nl ha, vl_nl hb, Int.one_mul]
  rw [if_neg (by omega), if_neg (by omega)]
theorem pF_rep {a : Int} (ha : 0 ≤ a) : ∀ (m : Nat) (s : Int), (∀ p : Nat, p ≤ m → (nl (s * a ^ p)).length ≤ 256) → pF s (List.replicate m (nl a)) = (nl (s * a ^ m), 0) := by
  intro m
  induction m with
  | zero => intro s _; simp [pF]
  | succ m ih =>
    intro s h
    have h1 := h 1 (by omega)
    rw [Int.pow_succ, Int.pow_zero, Int.one_mul] at h1
    simp only [List.replicate_succ, pF, vl_nl ha]
    rw [if_neg (by omega), ih (s * a) (fun p hp => by
      have := h (p + 1) (by omega)
      rw [Int.pow_succ, Int.mul_comm (a ^ p) a, ← Int.mul_assoc] at this
      exact this), Int.mul_assoc, Int.mul_comm a, ← Int.pow_succ]
theorem fits {a : Int} (n : Nat) (h0 : 0 ≤ a) (h1 : a < 4294967296 ^ n) (hn : n ≤ 256) : (nl a).length ≤ 256 := Nat.le_trans (nl_len h0 h1) hn
theorem textF_nl {a : Int} (h0 : 0 ≤ a) (h : (nl a).length ≤ 256) : textF (nl a) = decB a.toNat := by
  unfold textF
  rw [if_pos (rb_nl h0 h), vl_nl h0]
theorem dec_a : (decB 18446744073709551616).toList = [49, 56, 52, 52, 54, 55, 52, 52, 48, 55, 51, 55, 48, 57, 53, 53, 49, 54, 49, 54] := by decide +kernel
theorem dec_d : (decB 100000000000000000000).toList = [49, 48, 48, 48, 48, 48, 48, 48, 48, 48, 48, 48, 48, 48, 48, 48, 48, 48, 48, 48, 48] := by decide +kernel
theorem dec_m : (decB 99999999999999999998).toList = [57, 57, 57, 57, 57, 57, 57, 57, 57, 57, 57, 57, 57, 57, 57, 57, 57, 57, 57, 56] := by decide +kernel
theorem dec_z : (decB 0).toList = [48] := by decide +kernel
theorem nl_five : nl 5 = [5] := by
  refine nl_of ⟨Lim.cons (by omega) Lim.nil, fun n hn => ?_⟩ (by rfl)
  have e : n = 0 := by simpa using hn.symm
  subst e
  rw [rd_cons_zero]; decide
theorem alive10 (k : Nat) (hk : 303000 ≤ k) : drawlotlaw10_alive.f k = some true := by
  have f3 : ∀ a : Int, 0 ≤ a → a < 4294967296 ^ 3 → (nl a).length ≤ 256 := fun a h0 h1 => fits 3 h0 h1 (by omega)
  have lA := f3 18446744073709551616 (by omega) (by decide)
  have lB := f3 18446744073709551621 (by omega) (by decide)
  have lD := f3 100000000000000000000 (by omega) (by decide)
  have lQ := f3 14285714285714285714 (by omega) (by decide)
  have lM := f3 99999999999999999998 (by omega) (by decide)
  have l5 := f3 5 (by omega) (by decide)
  have l0 := f3 0 (by omega) (by decide)
  have l7 := f3 7 (by omega) (by decide)
  have l10 := f3 10 (by omega) (by decide)
  have eA : twoF 64 = (nl 18446744073709551616, 0) := by unfold twoF; rw [if_pos ⟨by omega, by omega⟩]; rfl
  have eO : twoF 8192 = ([], 1) := by unfold twoF; rw [if_neg (by omega)]
  have eB : addF [nl 18446744073709551616, nl 5, nl 0] = (nl 18446744073709551621, 0) := by
    unfold addF
    rw [if_pos (by simp only [List.all_cons, List.all_nil, rb_nl (show (0 : Int) ≤ 18446744073709551616 by omega) lA, rb_nl (show (0 : Int) ≤ 5 by omega) l5, rb_nl (show (0 : Int) ≤ 0 by omega) l0, Bool.and_true])]
    simp only [sF, vl_nl (show (0 : Int) ≤ 18446744073709551616 by omega), vl_nl (show (0 : Int) ≤ 5 by omega), vl_nl (show (0 : Int) ≤ 0 by omega), Int.zero_add, Int.add_zero, Int.reduceAdd]
    rw [if_neg (by omega), if_neg (by omega), if_neg (by omega)]
  have eC : subF (nl 18446744073709551621) (nl 18446744073709551616) = (nl 5, 0) := by
    unfold subF
    rw [if_pos (by rw [rb_nl (by omega) lB, rb_nl (by omega) lA]; rfl), vl_nl (by omega), vl_nl (by omega), if_neg (by omega)]; rfl
  have eH : subF (nl 18446744073709551616) (nl 18446744073709551621) = ([], 12) := by
    unfold subF
    rw [if_pos (by rw [rb_nl (by omega) lB, rb_nl (by omega) lA]; rfl), vl_nl (by omega), vl_nl (by omega), if_pos (by omega)]
  have eD : powF (nl 10) 20 = (nl 100000000000000000000, 0) := by
    unfold powF mulF
    rw [if_pos ⟨rb_nl (by omega) l10, by omega, by omega⟩, if_pos (by
      rw [List.all_eq_true]
      intro l hl
      rw [List.eq_of_mem_replicate hl]
      exact rb_nl (by omega) l10)]
    have := pF_rep (a := 10) (by omega) 20 1 (fun p hp => by
      rw [Int.one_mul]
      exact f3 _ (Int.pow_nonneg (by omega)) (by
        have : ∀ q : Fin 21, (10 : Int) ^ (q : Nat) < 4294967296 ^ 3 := by decide
        exact this ⟨p, by omega⟩))
    rw [show (20 : Int).toNat = 20 from rfl, this]
    rfl
  have eQ : divF (nl 100000000000000000000) 7 = (nl 14285714285714285714, 2, 0) := by
    unfold divF
    rw [if_pos ⟨rb_nl (by omega) lD, by omega, by omega⟩, vl_nl (by omega)]; rfl
  have eM : mulF [nl 14285714285714285714, nl 7] = (nl 99999999999999999998, 0) := mul_two (by omega) (by omega) lQ l7 lM
  have eN : mulF [] = (nl 1, 0) := rfl
  have cc : cF (nl 18446744073709551616) (nl 18446744073709551621) = -1 := by
    unfold cF sg
    rw [if_pos (by rw [rb_nl (by omega) lB, rb_nl (by omega) lA]; rfl), vl_nl (by omega), vl_nl (by omega), if_pos (by omega)]
  have r0 : rb [0] = false := by
    refine Bool.eq_false_iff.2 fun h => ?_
    have := (rb_iff (Lim.cons (x := 0) (by omega) Lim.nil)).1 h
    exact this.2.2 0 rfl (by decide)
  unfold drawlotlaw10_alive.f
  rw [two_b 64, bs, eA, of_p (a := 5) (by omega) (by omega) k (by omega), bs, of_p (a := 0) (by omega) (by omega) k (by omega), bs]
  simp only
  rw [(add_b (Lims.cons (Lim_nl _) (Lims.cons (Lim_nl _) (Lims.cons (Lim_nl _) Lims.nil))) (by simp) k (by omega)).1, bs, eB]
  simp only
  rw [sub_b (Lim_nl _) (Lim_nl _) k (by omega), bs, eC, sub_b (Lim_nl _) (Lim_nl _) k (by omega), bs, eH, of_p (a := 10) (by omega) (by omega) k (by omega), bs, pow_b (Lim_nl _) 20 k (by omega), bs, eD]
  simp only
  rw [div_b (Lim_nl _) (D := 7) (by omega) k (by omega), bs, eQ, of_p (a := 7) (by omega) (by omega) k (by omega), bs]
  simp only
  rw [(mul_b (Lims.cons (Lim_nl _) (Lims.cons (Lim_nl _) Lims.nil)) (by simp) k (by omega)).1, bs, eM, (mul_b Lims.nil (by simp) k (by omega)).1, bs, eN, two_b 8192, bs, eO]
  simp only
  rw [if_pos trivial, if_pos trivial, if_pos trivial, if_pos trivial, if_pos trivial, if_pos trivial, if_pos trivial, if_pos trivial, if_pos trivial]
  rw [text_b (Lim_nl _) k (by omega), bs, textF_nl (by omega) lA, show (18446744073709551616 : Int).toNat = 18446744073709551616 from rfl, dec_a, if_pos rfl, nl_five, (same_b [5] [5] (by simp) k (by simp; omega)).1, bs, if_pos (by decide)]
  rw [text_b (Lim_nl _) k (by omega), bs, textF_nl (by omega) lD, show (100000000000000000000 : Int).toNat = 100000000000000000000 from rfl, dec_d, if_pos rfl, if_pos trivial]
  rw [text_b (Lim_nl _) k (by omega), bs, textF_nl (by omega) lM, show (99999999999999999998 : Int).toNat = 99999999999999999998 from rfl, dec_m, if_pos rfl, nl_one, (same_b [1] [1] (by simp) k (by simp; omega)).1, bs, if_pos (by decide)]
  rw [cmp_b (Lim_nl _) (Lim_nl _) k (by omega), bs, cc, if_pos rfl, right_b (Lim_nl _) k (by omega), bs, rb_nl (by omega) lA, if_pos rfl, right_b (Lim.cons (x := 0) (by omega) Lim.nil) k (by omega), bs, r0, if_neg (by decide)]
  rw [show ([] : List Int) = nl 0 from nl_zero.symm, text_b (Lim_nl _) k (by omega), bs, textF_nl (by omega) l0, show (0 : Int).toNat = 0 from rfl, dec_z]
  rfl
theorem great_l (ls : List (List Int)) (hm : ls.length < 1000000) : ∀ (d k n : Nat), n + d = ls.length → d < k → drawlotlaw10_great.l0 k ls (n : Int) = some true ∨ (drawlotlaw10_great.l0 k ls (n : Int) = some false ∧ ∀ l ∈ ls.drop n, l.length ≤ 260) := by
  intro d
  induction d with
  | zero =>
    intro k n hn hk
    obtain ⟨k, rfl⟩ : ∃ m, k = m + 1 := ⟨k - 1, by omega⟩
    simp only [drawlotlaw10_great.l0]
    rw [if_neg (by omega), List.drop_eq_nil_of_le (by omega)]
    exact .inr ⟨rfl, fun _ h => nomatch h⟩
  | succ d ih =>
    intro k n hn hk
    obtain ⟨k, rfl⟩ : ∃ m, k = m + 1 := ⟨k - 1, by omega⟩
    have hi : n < ls.length := by omega
    simp only [drawlotlaw10_great.l0]
    rw [if_pos (by omega), if_pos (by omega), rd_L1_get hi, nat_up (by omega)]
    by_cases c : ls[n].length ≤ 260
    · rw [if_neg (by omega)]
      rcases ih k (n + 1) (by omega) (by omega) with h | ⟨h, g⟩
      · exact .inl h
      · refine .inr ⟨h, fun l hl => ?_⟩
        rw [dropL hi] at hl
        rcases List.mem_cons.1 hl with e | e
        · exact e ▸ c
        · exact g l e
    · rw [if_pos (by omega)]; exact .inl rfl
theorem great_p (ls : List (List Int)) (k : Nat) (hk : 10 ≤ k) : drawlotlaw10_great.f k ls = some true ∨ (drawlotlaw10_great.f k ls = some false ∧ ls.length ≤ 6 ∧ ∀ l ∈ ls, l.length ≤ 260) := by
  unfold drawlotlaw10_great.f
  by_cases c : ls.length ≤ 6
  · rw [if_neg (by omega)]
    rcases great_l ls (by omega) ls.length k 0 (by omega) (by omega) with h | ⟨h, g⟩
    · exact .inl h
    · exact .inr ⟨h, c, by rw [List.drop_zero] at g; exact g⟩
  · rw [if_pos (by omega)]; exact .inl rfl
end Go.Proofs.YtgfkclgpphnjfaaDoor.Lm
