/- What the functions of the reference of alias answer, in plain Lean: the same as alias's. No conditions. -/
import Derived.Test.YtbafkkbbjacekaaPBx7
import Derived.Test.YtbafkkbbjacekaaPBx8
import Derived.Test.YtbafkkbbjacekaaPBx9
import Derived.Test.YtbafkkbbjacekaaLmAliasB
import Derived.Test.YtbafkkbbjacekaaLmAliasS
import Derived.Test.YtbafkkbbjacekaaLmAliasT
namespace Go.Proofs.Ytbafkkbbjacekaa.Lm
open Go.RowKit Go.Proofs.YtbafkkbbjacekaaW.PrintWords Go.Proofs.Ytbafkkbbjacekaa.PB

theorem rsize_ok (k : Nat) (T : Int) (cl : List S62) (hT : 0 ≤ T ∧ T < 18446744073709551616) (hk : cl.length + 1 < k) (hm : cl.length < 9223372036854775807) : drawlotref14_Size.f k T cl = some (sizeS T cl) := by
  unfold drawlotref14_Size.f sizeS
  rw [rright_ok k T cl hT hk hm, bs]
  by_cases c : rightS T cl = true
  · have h := rightS_lt c
    have := Int.mul_nonneg (a := (cl.length : Int)) (b := T) (by omega) (by omega)
    rw [if_pos c, if_pos c, u64w_id (x := (cl.length : Int)) (by omega) (by omega), u64w_id (by omega) (by omega)]
  · rw [if_neg c, if_neg c]
theorem rlookup_ok (k : Nat) (T : Int) (cl : List S62) (hT : 0 ≤ T ∧ T < 18446744073709551616) (hk : cl.length + 1 < k) (hm : cl.length < 9223372036854775807) (i u : Int) :
    drawlotref14_Lookup.f k T cl i u = some (lookS T cl i u) := by
  unfold drawlotref14_Lookup.f lookS
  rw [rright_ok k T cl hT hk hm, bs]
  obtain ⟨k, rfl⟩ : ∃ m, k = m + 1 := ⟨k - 1, by omega⟩
  simp only [drawlotref14_Lookup.j0]
  by_cases c : rightS T cl = true
  · simp only [if_pos c]
    by_cases a : i < 0
    · rw [if_pos a, if_pos trivial, if_neg (by omega)]
    · rw [if_neg a]
      by_cases b : i ≥ (cl.length : Int)
      · rw [if_pos b, if_pos trivial, if_neg (by omega)]
      · rw [if_neg b]
        by_cases d : u ≥ T
        · rw [if_pos (by simpa using d), if_neg (by omega)]
        · rw [if_neg (by simpa using d), if_pos (by omega), if_pos (by omega), if_pos (show 0 ≤ i ∧ i < (cl.length : Int) ∧ u < T by omega)]
          by_cases e : u < (rd_T62 cl i).f0
          · rw [if_pos e, if_neg (by omega)]
          · rw [if_neg e, if_pos (by omega)]
  · simp only [if_neg c]
theorem rowner_ok (k : Nat) (T : Int) (cl : List S62) (hT : 0 ≤ T ∧ T < 18446744073709551616) (hk : cl.length + 1 < k) (hm : cl.length < 9223372036854775807) (u : Int) (hu : 0 ≤ u ∧ u < 18446744073709551616) :
    drawlotref14_Owner.f k T cl u = some (ownerS T cl u) := by
  unfold drawlotref14_Owner.f ownerS
  rw [rright_ok k T cl hT hk hm, bs, rsize_ok k T cl hT hk hm, bs]
  unfold sizeS
  by_cases c : rightS T cl = true
  · have h := rightS_lt c
    simp only [if_pos c]
    by_cases a : u < (cl.length : Int) * T
    · have h0 : 0 ≤ u / T := Int.ediv_nonneg hu.1 (by omega)
      have h1 : u / T < cl.length := Int.ediv_lt_of_lt_mul (by omega) a
      rw [if_neg (by omega), if_neg (by omega), if_pos a, Int.tdiv_eq_ediv_of_nonneg hu.1, Int.tmod_eq_emod_of_nonneg hu.1, u64w_id h0 (by omega), w64_id (by omega) (by omega), rlookup_ok k T cl hT hk hm, bs]
    · rw [if_pos (by omega), if_neg a]
  · simp only [if_neg c]
theorem rowns_l (T i : Int) (cl : List S62) (hm : cl.length < 9223372036854775807) : ∀ (d k x : Nat) (a : Int), x + d = cl.length → d < k → 0 ≤ a ∧ a < 18446744073709551616 →
    drawlotref14_Owns.l0 k i a (x : Int) T cl = some (IntKind.u64.wrap (a + (if (x : Int) ≤ i ∧ i < cl.length then (rd_T62 cl i).f0 else 0) + gave T (cl.drop x) i), 0) := by
  intro d
  induction d with
  | zero =>
    intro k x a hx hk ha
    obtain ⟨k, rfl⟩ : ∃ m, k = m + 1 := ⟨k - 1, by omega⟩
    simp only [drawlotref14_Owns.l0]
    rw [if_neg (by omega), List.drop_eq_nil_of_le (by omega), if_neg (by omega)]
    simp only [gave, List.map_nil, List.sum_nil, Int.add_zero]
    rw [u64w_id ha.1 ha.2]
  | succ d ih =>
    intro k x a hx hk ha
    obtain ⟨k, rfl⟩ : ∃ m, k = m + 1 := ⟨k - 1, by omega⟩
    simp only [drawlotref14_Owns.l0]
    rw [if_pos (by omega), dropT (by omega), gave_cons, stepC (m := cl.length) (by omega) hm]
    have W : ∀ z : Int, 0 ≤ IntKind.u64.wrap z ∧ IntKind.u64.wrap z < 18446744073709551616 := fun z => by rw [u64w]; omega
    by_cases e : (x : Int) = i
    · subst e
      rw [if_pos rfl, if_pos (by omega)]
      by_cases c : (rd_T62 cl (x : Int)).f1 = (x : Int)
      · rw [if_pos c, if_pos c, ih k (x + 1) _ (by omega) (by omega) (W _), if_neg (by omega), if_pos (by omega)]
        simp only [u64w]
        congr 2
        omega
      · rw [if_neg c, if_neg c, ih k (x + 1) _ (by omega) (by omega) (W _), if_neg (by omega), if_pos (by omega)]
        simp only [u64w]
        congr 2
        omega
    · rw [if_neg e, if_pos (by omega)]
      have e2 : (((x + 1 : Nat) : Int) ≤ i ∧ i < cl.length) ↔ ((x : Int) ≤ i ∧ i < cl.length) := by omega
      by_cases c : (rd_T62 cl (x : Int)).f1 = i
      · rw [if_pos c, if_pos c, ih k (x + 1) _ (by omega) (by omega) (W _)]
        simp only [u64w, e2]
        congr 2
        omega
      · rw [if_neg c, if_neg c, ih k (x + 1) _ (by omega) (by omega) ha]
        simp only [e2, Int.zero_add]
theorem rowns_ok (k : Nat) (T : Int) (cl : List S62) (hT : 0 ≤ T ∧ T < 18446744073709551616) (hk : cl.length + 1 < k) (hm : cl.length < 9223372036854775807) (i : Int) :
    drawlotref14_Owns.f k T cl i = some (ownsS T cl i) := by
  unfold drawlotref14_Owns.f ownsS
  rw [rright_ok k T cl hT hk hm, bs]
  obtain ⟨k, rfl⟩ : ∃ m, k = m + 1 := ⟨k - 1, by omega⟩
  simp only [drawlotref14_Owns.j0]
  by_cases c : rightS T cl = true
  · simp only [if_pos c]
    by_cases a : i < 0
    · rw [if_pos a, if_pos trivial, if_neg (by omega)]
    · rw [if_neg a]
      by_cases b : i ≥ (cl.length : Int)
      · rw [if_pos (by simpa using b), if_neg (by omega)]
      · rw [if_neg (by simpa using b), if_pos (by omega)]
        have := rowns_l T i cl hm cl.length k 0 0 (by omega) (by omega) (by omega)
        rw [List.drop_zero, if_pos (by omega), Int.zero_add] at this
        exact this
  · simp only [if_neg c]
end Go.Proofs.Ytbafkkbbjacekaa.Lm
