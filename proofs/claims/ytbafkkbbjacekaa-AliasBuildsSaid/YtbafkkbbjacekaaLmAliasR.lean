/- What the functions of the reference of alias answer, in plain Lean: the same as alias's. No conditions. -/
import Derived.Test.YtbafkkbbjacekaaPBx7
import Derived.Test.YtbafkkbbjacekaaPBx8
import Derived.Test.YtbafkkbbjacekaaPBx9
import Derived.Test.YtbafkkbbjacekaaLmAliasB
import Derived.Test.YtbafkkbbjacekaaLmAliasS
namespace Go.Proofs.Ytbafkkbbjacekaa.Lm
open Go.RowKit Go.Proofs.YtbafkkbbjacekaaW.PrintWords Go.Proofs.Ytbafkkbbjacekaa.PB

theorem rright_l (T : Int) (cl : List S62) (hm : cl.length < 9223372036854775807) : ∀ (d k x : Nat), x + d = cl.length → d < k →
    drawlotref14_Right.l0 k (x : Int) T cl = some ((cl.drop x).all (cellOk T cl.length)) := by
  intro d
  induction d with
  | zero =>
    intro k x hx hk
    obtain ⟨k, rfl⟩ : ∃ m, k = m + 1 := ⟨k - 1, by omega⟩
    simp only [drawlotref14_Right.l0]
    rw [if_neg (by omega), List.drop_eq_nil_of_le (by omega)]; rfl
  | succ d ih =>
    intro k x hx hk
    obtain ⟨k, rfl⟩ : ∃ m, k = m + 1 := ⟨k - 1, by omega⟩
    simp only [drawlotref14_Right.l0]
    rw [if_pos (by omega), if_pos (by omega), dropT (by omega), List.all_cons, stepC (m := cl.length) (by omega) hm]
    rw [show cellOk T (cl.length : Int) (rd_T62 cl (x : Int)) = (decide ((rd_T62 cl (x : Int)).f0 ≤ T) && (decide (0 ≤ (rd_T62 cl (x : Int)).f1) && decide ((rd_T62 cl (x : Int)).f1 < (cl.length : Int)))) from rfl]
    by_cases h : (rd_T62 cl (x : Int)).f0 > T
    · rw [if_pos h, decide_eq_false (p := (rd_T62 cl (x : Int)).f0 ≤ T) (by omega)]; simp
    · rw [if_neg h, decide_eq_true (p := (rd_T62 cl (x : Int)).f0 ≤ T) (by omega)]
      by_cases g : (rd_T62 cl (x : Int)).f1 < 0
      · rw [if_pos g, decide_eq_false (p := 0 ≤ (rd_T62 cl (x : Int)).f1) (by omega)]; simp
      · rw [if_neg g, decide_eq_true (p := 0 ≤ (rd_T62 cl (x : Int)).f1) (by omega)]
        by_cases e : (rd_T62 cl (x : Int)).f1 ≥ (cl.length : Int)
        · rw [if_pos e, decide_eq_false (p := (rd_T62 cl (x : Int)).f1 < (cl.length : Int)) (by omega)]; simp
        · rw [if_neg e, decide_eq_true (p := (rd_T62 cl (x : Int)).f1 < (cl.length : Int)) (by omega), ih k (x + 1) (by omega) (by omega)]
          simp
theorem rright_ok (k : Nat) (T : Int) (cl : List S62) (hT : 0 ≤ T ∧ T < 18446744073709551616) (hk : cl.length + 1 < k) (hm : cl.length < 9223372036854775807) : drawlotref14_Right.f k T cl = some (rightS T cl) := by
  unfold drawlotref14_Right.f rightS
  rw [u64w_id (x := (cl.length : Int)) (by omega) (by omega), rmul_ok k (by omega) (by omega) hT, bs]
  obtain ⟨k, rfl⟩ : ∃ m, k = m + 1 := ⟨k - 1, by omega⟩
  simp only [drawlotref14_Right.j0]
  by_cases z : (cl.length : Int) = 0
  · rw [if_pos z, if_pos trivial, decide_eq_false (p := 0 < (cl.length : Int)) (by omega)]; rfl
  · rw [if_neg z, decide_eq_true (p := 0 < (cl.length : Int)) (by omega)]
    by_cases t : T = 0
    · rw [if_pos t, if_pos trivial, decide_eq_false (p := 0 < T) (by omega)]; rfl
    · rw [if_neg t, decide_eq_true (p := 0 < T) (by omega)]
      by_cases c : (cl.length : Int) * T < 9223372036854775808
      · rw [if_pos c, decide_eq_true c, if_neg (by simp)]
        have := rright_l T cl hm cl.length k 0 (by omega) (by omega)
        rw [List.drop_zero] at this
        simpa using this
      · rw [if_neg c, decide_eq_false c, if_pos (by simp)]; rfl
theorem rsize_ok (k : Nat) (T : Int) (cl : List S62) (hT : 0 ≤ T ∧ T < 18446744073709551616) (hk : cl.length + 1 < k) (hm : cl.length < 9223372036854775807) : drawlotref14_Size.f k T cl = some (sizeS T cl) := by
  unfold drawlotref14_Size.f sizeS
  rw [rright_ok k T cl hT hk hm, bs]
  by_cases c : rightS T cl = true
  · have h := rightS_lt c
    have := Int.mul_nonneg (a := (cl.length : Int)) (b := T) (by omega) (by omega)
    rw [if_pos c, if_pos c, u64w_id (x := (cl.length : Int)) (by omega) (by omega), u64w_id (by omega) (by omega)]
  · rw [if_neg c, if_neg c]
theorem rlookup_ok (k : Nat) (T : Int) (cl : List S62) (hT : 0 ≤ T ∧ T < 18446744073709551616) (hk : cl.length + 1 < k) (hm : cl.length < 9223372036854775807) (i u : Int) :
    drawlotref14_Lookup.f k T cl i u = some (lookS T cl i u) := by
  unfold drawlotref14_Lookup.f lookS
  rw [rright_ok k T cl hT hk hm, bs]
  obtain ⟨k, rfl⟩ : ∃ m, k = m + 1 := ⟨k - 1, by omega⟩
  simp only [drawlotref14_Lookup.j0]
  by_cases c : rightS T cl = true
  · simp only [if_pos c]
    by_cases a : i < 0
    · rw [if_pos a, if_pos trivial, if_neg (by omega)]
    · rw [if_neg a]
      by_cases b : i ≥ (cl.length : Int)
      · rw [if_pos b, if_pos trivial, if_neg (by omega)]
      · rw [if_neg b]
        by_cases d : u ≥ T
        · rw [if_pos (by simpa using d), if_neg (by omega)]
        · rw [if_neg (by simpa using d), if_pos (by omega), if_pos (by omega), if_pos (show 0 ≤ i ∧ i < (cl.length : Int) ∧ u < T by omega)]
          by_cases e : u < (rd_T62 cl i).f0
          · rw [if_pos e, if_neg (by omega)]
          · rw [if_neg e, if_pos (by omega)]
  · simp only [if_neg c]
theorem rowner_ok (k : Nat) (T : Int) (cl : List S62) (hT : 0 ≤ T ∧ T < 18446744073709551616) (hk : cl.length + 1 < k) (hm : cl.length < 9223372036854775807) (u : Int) (hu : 0 ≤ u ∧ u < 18446744073709551616) :
    drawlotref14_Owner.f k T cl u = some (ownerS T cl u) := by
  unfold drawlotref14_Owner.f ownerS
  rw [rright_ok k T cl hT hk hm, bs, rsize_ok k T cl hT hk hm, bs]
  unfold sizeS
  by_cases c : rightS T cl = true
  · have h := rightS_lt c
    simp only [if_pos c]
    by_cases a : u < (cl.length : Int) * T
    · have h0 : 0 ≤ u / T := Int.ediv_nonneg hu.1 (by omega)
      have h1 : u / T < cl.length := Int.ediv_lt_of_lt_mul (by omega) a
      rw [if_neg (by omega), if_neg (by omega), if_pos a, Int.tdiv_eq_ediv_of_nonneg hu.1, Int.tmod_eq_emod_of_nonneg hu.1, u64w_id h0 (by omega), w64_id (by omega) (by omega), rlookup_ok k T cl hT hk hm, bs]
    · rw [if_pos (by omega), if_neg a]
  · simp only [if_neg c]
theorem rowns_l (T i : Int) (cl : List S62) (hm : cl.length < 9223372036854775807) : ∀ (d k x : Nat) (a : Int), x + d = cl.length → d < k → 0 ≤ a ∧ a < 18446744073709551616 →
    drawlotref14_Owns.l0 k i a (x : Int) T cl = some (IntKind.u64.wrap (a + (if (x : Int) ≤ i ∧ i < cl.length then (rd_T62 cl i).f0 else 0) + gave T (cl.drop x) i), 0) := by
  intro d
  induction d with
  | zero =>
    intro k x a hx hk ha
    obtain ⟨k, rfl⟩ : ∃ m, k = m + 1 := ⟨k - 1, by omega⟩
    simp only [drawlotref14_Owns.l0]
    rw [if_neg (by omega), List.drop_eq_nil_of_le (by omega), if_neg (by omega)]
    simp only [gave, List.map_nil, List.sum_nil, Int.add_zero]
    rw [u64w_id ha.1 ha.2]
  | succ d ih =>
    intro k x a hx hk ha
    obtain ⟨k, rfl⟩ : ∃ m, k = m + 1 := ⟨k - 1, by omega⟩
    simp only [drawlotref14_Owns.l0]
    rw [if_pos (by omega), dropT (by omega), gave_cons, stepC (m := cl.length) (by omega) hm]
    have W : ∀ z : Int, 0 ≤ IntKind.u64.wrap z ∧ IntKind.u64.wrap z < 18446744073709551616 := fun z => by rw [u64w]; omega
    by_cases e : (x : Int) = i
    · subst e
      rw [if_pos rfl, if_pos (by omega)]
      by_cases c : (rd_T62 cl (x : Int)).f1 = (x : Int)
      · rw [if_pos c, if_pos c, ih k (x + 1) _ (by omega) (by omega) (W _), if_neg (by omega), if_pos (by omega)]
        simp only [u64w]
        congr 2
        omega
      · rw [if_neg c, if_neg c, ih k (x + 1) _ (by omega) (by omega) (W _), if_neg (by omega), if_pos (by omega)]
        simp only [u64w]
        congr 2
        omega
    · rw [if_neg e, if_pos (by omega)]
      have e2 : (((x + 1 : Nat) : Int) ≤ i ∧ i < cl.length) ↔ ((x : Int) ≤ i ∧ i < cl.length) := by omega
      by_cases c : (rd_T62 cl (x : Int)).f1 = i
      · rw [if_pos c, if_pos c, ih k (x + 1) _ (by omega) (by omega) (W _)]
        simp only [u64w, e2]
        congr 2
        omega
      · rw [if_neg c, if_neg c, ih k (x + 1) _ (by omega) (by omega) ha]
        simp only [e2, Int.zero_add]
theorem rowns_ok (k : Nat) (T : Int) (cl : List S62) (hT : 0 ≤ T ∧ T < 18446744073709551616) (hk : cl.length + 1 < k) (hm : cl.length < 9223372036854775807) (i : Int) :
    drawlotref14_Owns.f k T cl i = some (ownsS T cl i) := by
  unfold drawlotref14_Owns.f ownsS
  rw [rright_ok k T cl hT hk hm, bs]
  obtain ⟨k, rfl⟩ : ∃ m, k = m + 1 := ⟨k - 1, by omega⟩
  simp only [drawlotref14_Owns.j0]
  by_cases c : rightS T cl = true
  · simp only [if_pos c]
    by_cases a : i < 0
    · rw [if_pos a, if_pos trivial, if_neg (by omega)]
    · rw [if_neg a]
      by_cases b : i ≥ (cl.length : Int)
      · rw [if_pos (by simpa using b), if_neg (by omega)]
      · rw [if_neg (by simpa using b), if_pos (by omega)]
        have := rowns_l T i cl hm cl.length k 0 0 (by omega) (by omega) (by omega)
        rw [List.drop_zero, if_pos (by omega), Int.zero_add] at this
        exact this
  · simp only [if_neg c]
theorem rl1_ok (T : Int) (n : Nat) : ∀ (d k : Nat) (hs : List Int) (cl : List S62) (sm lg : List Int), sm.length + lg.length ≤ d → 2 * d + 1 < k → d < 17592186044416 → hs.length = n → cl.length = n → InR n sm → InR n lg →
    drawlotref14_Build.l1 k T hs cl sm lg = some (T, fin d T hs cl sm lg, 0) := by
  intro d
  induction d with
  | zero =>
    intro k hs cl sm lg hd hk _ hh hc is il
    obtain ⟨k, rfl⟩ : ∃ m, k = m + 2 := ⟨k - 2, by omega⟩
    simp only [drawlotref14_Build.l1, drawlotref14_Build.j2, fin]
    rw [if_neg (by omega), if_neg (by decide)]
  | succ d ih =>
    intro k hs cl sm lg hd hk hb hh hc is il
    obtain ⟨k, rfl⟩ : ∃ m, k = m + 2 := ⟨k - 2, by omega⟩
    simp only [drawlotref14_Build.l1, drawlotref14_Build.j2, fin]
    by_cases c : 0 < sm.length ∧ 0 < lg.length
    · have ps := is.rd (i := sm.length - 1) (by omega)
      have pl := il.rd (i := lg.length - 1) (by omega)
      have h1 : (sm.take (sm.length - 1)).length = sm.length - 1 := by rw [List.length_take]; omega
      have h2 : (lg.take (lg.length - 1)).length = lg.length - 1 := by rw [List.length_take]; omega
      rw [if_pos (by omega), if_pos (by rw [decide_eq_true_eq]; omega), if_pos c, last_w (m := sm.length) (by omega) (by omega), last_w (m := lg.length) (by omega) (by omega)]
      simp only [Int.toNat_natCast]
      rw [if_pos (by omega), if_pos (by omega), if_pos (by omega), if_pos (by omega), if_pos (by omega), bs, if_pos (by omega), bs, if_pos (by omega), if_pos (by omega), if_pos (by omega), bs, if_pos (by omega), if_pos (by omega), bs]
      split
      · rw [if_pos (by omega)]
        refine ih k _ _ _ _ ?_ (by omega) (by omega) (by rw [List.length_set]; exact hh) (by rw [List.length_set]; exact hc) ((is.take _).snoc pl) (il.take _)
        simp only [List.length_append, List.length_singleton, h1, h2]; omega
      · rw [if_pos (by omega)]
        refine ih k _ _ _ _ ?_ (by omega) (by omega) (by rw [List.length_set]; exact hh) (by rw [List.length_set]; exact hc) (is.take _) ((il.take _).snoc pl)
        simp only [List.length_append, List.length_singleton, h1, h2]; omega
    · rw [if_neg c]
      by_cases a : (sm.length : Int) > 0
      · rw [if_pos a, if_neg (by rw [decide_eq_true_eq]; omega)]
      · rw [if_neg a, if_neg (by decide)]
def rcl0 (T : Int) (n i : Nat) : List S62 := cl0 T i ++ List.replicate (n - i) z62
theorem rcl0_step (T : Int) {n i : Nat} (h : i < n) : (rcl0 T n i).set i ⟨T, (i : Int)⟩ = rcl0 T n (i + 1) := by
  unfold rcl0
  have := set_rep (cl0 T i) z62 ⟨T, (i : Int)⟩ (n - i) (by omega)
  rw [cl0_len] at this
  rw [this, cl0_step, show n - i - 1 = n - (i + 1) by omega]
theorem rcl0_len (T : Int) {n i : Nat} (h : i ≤ n) : (rcl0 T n i).length = n := by
  simp only [rcl0, List.length_append, cl0_len, List.length_replicate]; omega
theorem rl0_ok (T : Int) (l : List Int) (hm : l.length ≤ 1048576) : ∀ (d k i : Nat), i + d = l.length → d + 2 * l.length + 2 < k →
    drawlotref14_Build.l0 k l T (IntKind.u64.wrap (l.length : Int)) (hs0 l i) (rcl0 T l.length i) (sm0 l T i) (lg0 l T i) (i : Int) = some (T, fin l.length T (hs0 l l.length) (cl0 T l.length) (sm0 l T l.length) (lg0 l T l.length), 0) := by
  intro d
  induction d with
  | zero =>
    intro k i hi hk
    obtain ⟨k, rfl⟩ : ∃ m, k = m + 1 := ⟨k - 1, by omega⟩
    simp only [drawlotref14_Build.l0]
    obtain rfl : i = l.length := by omega
    rw [if_neg (by omega)]
    have e : rcl0 T l.length l.length = cl0 T l.length := by simp [rcl0]
    rw [e]
    exact rl1_ok T l.length l.length k _ _ _ _ (by have := smlg_len l T l.length; omega) (by omega) (by omega) (hs0_len l (Nat.le_refl _)) (cl0_len T _) (sm0_in l T _) (lg0_in l T _)
  | succ d ih =>
    intro k i hi hk
    obtain ⟨k, rfl⟩ : ∃ m, k = m + 1 := ⟨k - 1, by omega⟩
    simp only [drawlotref14_Build.l0]
    have h1 := hs0_len l (i := i) (by omega)
    have h2 := rcl0_len T (n := l.length) (i := i) (by omega)
    have h3 := smlg_len l T i
    have hr : rd (hs0 l (i + 1)) (i : Int) = hasAt l i := by
      rw [← hs0_step l (by omega)]
      unfold rd
      rw [Int.toNat_natCast, List.getD_eq_getElem?_getD, List.getElem?_set_self (by omega)]; rfl
    rw [if_pos (by omega), if_pos (by omega), if_pos (by omega), Int.toNat_natCast, stepC (m := l.length) (by omega) (by omega)]
    rw [show IntKind.u64.wrap (IntKind.u64.wrap (l.length : Int) * rd l (i : Int)) = hasAt l i by rw [Int.mul_comm]; rfl, hs0_step l (by omega), bs, if_pos (by omega), rcl0_step T (by omega), bs, hr]
    have e1 := sm0_step l T i
    have e2 := lg0_step l T i
    by_cases c : hasAt l i < T
    · rw [if_pos c] at e1 e2
      rw [if_pos c, if_pos (by omega), e1, e2]
      exact ih k (i + 1) (by omega) (by omega)
    · rw [if_neg c] at e1 e2
      rw [if_neg c, if_pos (by omega), e1, e2]
      exact ih k (i + 1) (by omega) (by omega)
theorem rbuild_ok (k : Nat) (l : List Int) (hl : U64 l) (hk : 3 * l.length + 3 < k) (hm : l.length ≤ 1048576) : drawlotref14_Build.f k l = some (buildS l) := by
  unfold drawlotref14_Build.f buildS
  by_cases z : l.length = 0
  · rw [if_pos (by omega), if_pos z]
  · rw [if_neg (by omega), if_neg z, rtotal_ok k l hl (by omega) (by omega), bs]
    have hs := sum_nonneg hl
    by_cases c : l.sum < 9223372036854775808
    · simp only [if_pos c]
      rw [if_pos trivial]
      by_cases e : l.sum = 0
      · rw [if_pos e, if_pos e]
      · rw [if_neg e, if_neg e, u64w_id (x := (l.length : Int)) (by omega) (by omega), rmul_ok k (by omega) (by omega) (by omega), bs]
        by_cases g : (l.length : Int) * l.sum < 9223372036854775808
        · simp only [if_pos g]
          rw [if_pos trivial, if_pos (by omega), if_pos (by omega), if_pos (by omega)]
          have := rl0_ok l.sum l hm l.length k 0 (by omega) (by omega)
          rw [u64w_id (x := (l.length : Int)) (by omega) (by omega)] at this
          simpa [hs0, cl0, rcl0, sm0, lg0, tabS] using this
        · simp only [if_neg g]; rw [if_neg (by decide)]
    · simp only [if_neg c]; rw [if_neg (by decide)]
end Go.Proofs.Ytbafkkbbjacekaa.Lm
