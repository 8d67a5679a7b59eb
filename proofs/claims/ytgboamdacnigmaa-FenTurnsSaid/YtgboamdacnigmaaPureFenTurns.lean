/- A tree that is set and grown is that of the stakes that it has then, or refused, and as it was; the statement over lists alone. No conditions. -/
import Derived.Test.YtgboamdacnigmaaPFx6
import Derived.Test.YtgboamdacnigmaaLmFenR
namespace Go.Proofs.Ytgboamdacnigmaa.Pure
open Go.RowKit Go.Proofs.Ytgboamdacnigmaa.PF Go.Proofs.YtgboamdacnigmaaW.PrintWords Go.Proofs.YtgboamdacnigmaaW.PrintLast Go.Proofs.Ytgboamdacnigmaa.Lm
theorem alive11u (k : Nat) (hk : 80 ≤ k) : drawlotlaw11_alive.f k = some true := at_rounds (g := fun k => drawlotlaw11_alive.f k) (fun k => drawlotlaw11_alive.mono k) (k := 80) (k' := k) hk (r := true) (by decide +kernel)
theorem app_U64 {l : List Int} (hl : U64 l) {x : Int} (hx : 0 ≤ x ∧ x < 18446744073709551616) : U64 (l ++ [x]) := fun y hy => by
  rcases List.mem_append.1 hy with h | h
  · exact hl y h
  · rw [List.mem_singleton] at h; subst h; exact hx
/-- The reference's setting. -/
theorem r11set_ok (k : Nat) (l : List Int) (hl : U64 l) (hk : l.length + 1 < k) (hm : l.length < 1048577) (i x : Int) (hx : 0 ≤ x ∧ x < 18446744073709551616) :
    drawlotref11_Set.f k l i x = some (if 0 ≤ i ∧ i < l.length then (if (l.set i.toNat x).sum < 9223372036854775808 then (l.set i.toNat x, 0) else ([], 11)) else ([], 3)) := by
  obtain ⟨k, rfl⟩ : ∃ m, k = m + 1 := ⟨k - 1, by omega⟩
  unfold drawlotref11_Set.f
  by_cases h0 : i < 0
  · rw [if_pos h0, if_neg (by omega)]
    simp only [drawlotref11_Set.j0]
    rw [if_pos trivial]
  · rw [if_neg h0]
    simp only [drawlotref11_Set.j0]
    by_cases h1 : i ≥ (l.length : Int)
    · rw [decide_eq_true h1, if_pos rfl, if_neg (by omega)]
    · rw [decide_eq_false h1, if_neg (by decide), bs, List.length_nil, Nat.zero_add, List.nil_append, if_pos (by omega), bs, if_pos (by omega), if_pos (by omega), bs, rtotal_ok k _ (set_U64 hl i.toNat x hx) (by rw [List.length_set]; omega) (by rw [List.length_set]; omega), bs, if_pos (show 0 ≤ i ∧ i < l.length by omega)]
      by_cases c : (l.set i.toNat x).sum < 9223372036854775808
      · rw [if_pos c, if_pos c, if_pos rfl]
      · rw [if_neg c, if_neg c, if_neg (by decide)]
/-- What is known of the stakes that a tree has. -/
def Ok (l : List Int) (n : Nat) : Prop := U64 l ∧ l.sum < 9223372036854775808 ∧ l.length ≤ n
theorem turns_l {t : List S32} (ht : ∀ x ∈ t, (Lit.int .i64 x.f0).wf = true ∧ (Lit.int .u64 x.f1).wf = true) (hl : t.length ≤ 50) : ∀ (d k i : Nat) (l : List Int), i + d = t.length → 3 * d + 800 < k → Ok l (100 + i) →
    drawlotlaw11_FenTurns.l0 k t l (i : Int) (tre l) = some true
  | 0, k, i, l, hi, hk, ⟨hu, hs, hn⟩ => by
    obtain ⟨k, rfl⟩ : ∃ m, k = m + 1 := ⟨k - 1, by omega⟩
    simp only [drawlotlaw11_FenTurns.l0]
    rw [if_neg (by omega), stakes_ok k l hu hs (by omega) (by omega), bs, same_ok k l l (by omega) (by omega), bs, decide_eq_true rfl]
  | d + 1, k, i, l, hi, hk, ⟨hu, hs, hn⟩ => by
    obtain ⟨k, rfl⟩ : ∃ m, k = m + 3 := ⟨k - 3, by omega⟩
    have e1 : wrap64 ((i : Int) + 1) = ((i + 1 : Nat) : Int) := by rw [w64_id (by omega) (by omega)]; omega
    have hmem : rd_T32 t (i : Int) ∈ t := by
      unfold rd_T32
      rw [Int.toNat_natCast, List.getD_eq_getElem?_getD, List.getElem?_eq_getElem (by omega)]
      exact List.getElem_mem _
    obtain ⟨hx0, hx1⟩ := ht _ hmem
    have hx0 := wfi64 hx0
    have hx1 := wf64 hx1
    have htl : (tre l).length = l.length := tre_length l
    have same_self : ∀ (m : Nat) (a : List Int), a.length < m → a.length < 9223372036854775807 → drawlotref09_Same.f m a a = some true := fun m a h1 h2 => by rw [same_ok m a a h1 h2, decide_eq_true rfl]
    -- what a turn leaves: the new stakes, or refused
    have end_ok : ∀ (m : List Int), Ok m (100 + (i + 1)) → drawlotlaw11_FenTurns.j2 (k + 2) t l (i : Int) (tre l) 0 0 m (tre l) (tre m) = some true := fun m hm => by
      obtain ⟨mu, ms, mn⟩ := hm
      simp only [drawlotlaw11_FenTurns.j2]
      rw [if_pos trivial, same_self _ _ (by omega) (by omega), bs]
      simp only [drawlotlaw11_FenTurns.j3]
      rw [if_neg (by decide), if_pos trivial, rtree_ok _ m mu ms (by omega) (by omega), bs, r11same_ok _ _ _ (by rw [tre_length]; omega) (by rw [tre_length]; omega), bs, decide_eq_true rfl, if_pos rfl, e1]
      exact turns_l ht hl d k (i + 1) m (by omega) (by omega) ⟨mu, ms, by omega⟩
    have end_no : ∀ (e : Int) (m : List Int), ¬ e = 0 → drawlotlaw11_FenTurns.j2 (k + 2) t l (i : Int) (tre l) e e m (tre l) [] = some true := fun e m he => by
      simp only [drawlotlaw11_FenTurns.j2]
      rw [if_pos trivial, same_self _ _ (by omega) (by omega), bs]
      simp only [drawlotlaw11_FenTurns.j3]
      rw [if_neg (by decide), if_neg he, if_neg (by simp), e1]
      exact turns_l ht hl d k (i + 1) l (by omega) (by omega) ⟨hu, hs, by omega⟩
    simp only [drawlotlaw11_FenTurns.l0]
    rw [if_pos (by omega), if_pos (by omega), bs, List.length_nil, Nat.zero_add, List.nil_append, if_pos (by omega), bs]
    generalize (rd_T32 t (i : Int)).f0 = at_ at *
    generalize (rd_T32 t (i : Int)).f1 = x at *
    by_cases hneg : at_ < 0
    · rw [if_pos hneg, grow_ok hu hs (by omega) _ (by omega) x hx1, bs, bs, List.length_nil, Nat.zero_add, List.nil_append, if_pos (by omega), bs, bs, if_pos (by simp; omega), bs, rtotal_ok _ _ (app_U64 hu hx1) (by simp; omega) (by simp; omega), bs]
      by_cases c : (l ++ [x]).sum < 9223372036854775808
      · rw [if_pos c, if_pos c, if_pos rfl]
        exact end_ok _ ⟨app_U64 hu hx1, c, by simp; omega⟩
      · rw [if_neg c, if_neg c, if_neg (by decide)]
        exact end_no 11 _ (by decide)
    · rw [if_neg hneg, fset_ok hu hs (by omega) _ (by omega) at_ x hx1, bs, r11set_ok _ l hu (by omega) (by omega) at_ x hx1, bs]
      by_cases b : 0 ≤ at_ ∧ at_ < l.length
      · rw [if_pos b, if_pos b]
        by_cases c : (l.set at_.toNat x).sum < 9223372036854775808
        · rw [if_pos c, if_pos c]
          exact end_ok _ ⟨set_U64 hu at_.toNat x hx1, c, by rw [List.length_set]; omega⟩
        · rw [if_neg c, if_neg c]
          exact end_no 11 _ (by decide)
      · rw [if_neg b, if_neg b]
        exact end_no 3 _ (by decide)
theorem FenTurns : drawlotlaw11_FenTurns.Pure := by
  intro l t hm hs hw ht
  have hu := U64.of_wf hw
  refine ⟨2000, ?_⟩
  unfold drawlotlaw11_FenTurns.f
  rw [alive11u _ (by omega), bs, if_pos rfl]
  have j : ∀ b, drawlotlaw11_FenTurns.j0 2000 l t b = if b = true then some true else drawlotlaw11_FenTurns.j0 2000 l t b := fun b => by
    cases b
    · rw [if_neg (by decide)]
    · rw [if_pos rfl]
      simp only [drawlotlaw11_FenTurns.j0]
      rw [if_pos trivial]
  by_cases h : (l.length : Int) > 100
  · rw [if_pos h, j, if_pos rfl]
  · rw [if_neg h]
    by_cases h2 : (t.length : Int) > 50
    · rw [decide_eq_true h2, j, if_pos rfl]
    · rw [decide_eq_false h2]
      rw [show (2000 : Nat) = 1999 + 1 from rfl]
      simp only [drawlotlaw11_FenTurns.j0]
      rw [if_neg (by decide), build_ok _ l hu (by omega) (by omega), bs]
      by_cases c : l.sum < 9223372036854775808
      · rw [if_pos c, if_pos rfl, bs, List.length_nil, Nat.zero_add, List.nil_append, if_pos (by omega)]
        exact turns_l ht.2 (by omega) t.length 1999 0 l (by omega) (by omega) ⟨hu, c, by omega⟩
      · rw [if_neg c, if_neg (by decide)]
        simp
end Go.Proofs.Ytgboamdacnigmaa.Pure
