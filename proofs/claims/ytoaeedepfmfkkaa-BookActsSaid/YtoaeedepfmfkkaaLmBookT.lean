/- What is done with validators keeps them such as may be. No conditions. -/
import Derived.Test.YtoaeedepfmfkkaaLmBookS
namespace Go.Proofs.Ytoaeedepfmfkkaa.Lm
open Go.RowKit Go.Proofs.YtoaeedepfmfkkaaW.PrintWords Go.Proofs.YtoaeedepfmfkkaaW.PrintLast Go.Proofs.Ytoaeedepfmfkkaa.PB

theorem nodup_keys (l : List S27) : nodup l ↔ (l.map (·.f0)).Pairwise (fun a b => b ≠ a) := by
  rw [nodup_pw, List.pairwise_map]
theorem put2_nat (l : List S27) (n : Nat) (h : n < l.length) (v : Int) : put2 l (n : Int) v = l.set n ⟨l[n].f0, l[n].f1, v⟩ := by
  unfold put2
  rw [rd27_nat l n h, Int.toNat_natCast]
theorem set_self_ {α : Type} (l : List α) (n : Nat) (h : n < l.length) (x : α) (hx : x = l[n]) : l.set n x = l := by
  subst hx; exact List.set_getElem_self h
theorem put2_keys (l : List S27) (n : Nat) (h : n < l.length) (v : Int) : (put2 l (n : Int) v).map (·.f0) = l.map (·.f0) := by
  rw [put2_nat l n h, List.map_set]
  exact set_self_ _ n (by simpa using h) _ (by simp)
theorem put2_stk (l : List S27) (n : Nat) (h : n < l.length) (v : Int) : stk (put2 l (n : Int) v) = stk l := by
  unfold stk
  rw [put2_nat l n h, List.map_set]
  exact set_self_ _ n (by simpa using h) _ (by simp)
theorem sum_set (l : List Int) (n : Nat) (h : n < l.length) (v : Int) : (l.set n v).sum = l.sum - rd l (n : Int) + v := by
  rw [List.set_eq_take_append_cons_drop, if_pos h, List.sum_append, List.sum_cons]
  have := sum_take_drop l n
  rw [sum_drop_step h] at this
  omega
theorem put2_nxt (l : List S27) (n : Nat) (h : n < l.length) (v : Int) : (nxt (put2 l (n : Int) v)).sum = (nxt l).sum - (rd_T27 l (n : Int)).f2 + v := by
  unfold nxt
  rw [put2_nat l n h, List.map_set, sum_set _ n (by simpa using h), rd_nat, rd27_nat l n h]
  simp [List.getD, h]
theorem put2_len (l : List S27) (i v : Int) : (put2 l i v).length = l.length := by simp [put2]
theorem put2_rd (l : List S27) (n : Nat) (h : n < l.length) (v : Int) : rd_T27 (put2 l (n : Int) v) (n : Int) = ⟨(rd_T27 l (n : Int)).f0, (rd_T27 l (n : Int)).f1, v⟩ := by
  rw [rd27_nat _ n (by rw [put2_len]; exact h), rd27_nat l n h]
  simp only [put2_nat l n h, List.getElem_set_self]
theorem put2_ne (l : List S27) (n q : Nat) (h : n < l.length) (hq : q < l.length) (v : Int) : (rd_T27 (put2 l (n : Int) v) (q : Int)).f0 = (rd_T27 l (q : Int)).f0 ∧ (rd_T27 (put2 l (n : Int) v) (q : Int)).f1 = (rd_T27 l (q : Int)).f1 := by
  by_cases e : n = q
  · subst e
    rw [put2_rd l n h]
    exact ⟨rfl, rfl⟩
  · rw [rd27_nat _ q (by rw [put2_len]; exact hq), rd27_nat l q hq]
    simp only [put2_nat l n h, List.getElem_set_ne e]
    exact ⟨trivial, trivial⟩
theorem put2_put2 (l : List S27) (n : Nat) (h : n < l.length) (u v : Int) : put2 (put2 l (n : Int) u) (n : Int) v = put2 l (n : Int) v := by
  unfold put2
  have := put2_rd l n h u
  unfold put2 at this
  rw [this, Int.toNat_natCast, List.set_set]
theorem put2_self (l : List S27) (n : Nat) (h : n < l.length) : put2 l (n : Int) (rd_T27 l (n : Int)).f2 = l := by
  rw [put2_nat l n h, rd27_nat l n h]
  exact set_self_ l n h _ rfl
theorem RT.put2 {l : List S27} (hR : RT l) {n : Nat} (h : n < l.length) {v : Int} (hv : (nxt l).sum - (rd_T27 l (n : Int)).f2 + v < 9223372036854775808) : RT (put2 l (n : Int) v) := by
  refine ⟨by rw [put2_stk l n h]; exact hR.1, by rw [put2_nxt l n h]; exact hv, ?_⟩
  rw [nodup_keys, put2_keys l n h, ← nodup_keys]
  exact hR.2.2
theorem RT.snoc {l : List S27} (hR : RT l) {key : List Int} {a : Int} (hn : idx key l 0 = none) (ha : (nxt l).sum + a < 9223372036854775808) : RT (l ++ [⟨key, 0, a⟩]) := by
  refine ⟨by simpa [stk] using hR.1, by simpa [nxt] using ha, ?_⟩
  rw [nodup_keys, List.map_append, List.pairwise_append]
  refine ⟨(nodup_keys l).1 hR.2.2, by simp, fun x hx y hy => ?_⟩
  obtain ⟨v, hv, rfl⟩ := List.mem_map.1 hx
  simp only [List.map_cons, List.map_nil, List.mem_singleton] at hy
  subst hy
  exact fun e => idx_none.1 hn v hv e.symm
theorem RT.actv {l : List S27} (hR : RT l) : RT (Lm.actv l) := by
  have e1 : stk (Lm.actv l) = nxt l := by simp [stk, nxt, Lm.actv]
  have e2 : nxt (Lm.actv l) = nxt l := by simp [nxt, Lm.actv]
  refine ⟨by rw [e1]; exact hR.2.1, by rw [e2]; exact hR.2.1, ?_⟩
  rw [nodup_keys, show (Lm.actv l).map (·.f0) = l.map (·.f0) by simp [Lm.actv], ← nodup_keys]
  exact hR.2.2
theorem RT.nil : RT [] := by decide
/-- What a deposit comes to. -/
theorem dep_cases (l : List S27) (key : List Int) (a most : Int) : (∃ e, e ≠ 0 ∧ dep l key a most = ([], 0, e)) ∨
    (RT l ∧ a ≠ 0 ∧ most ≥ 1 ∧ (nxt l).sum + a < 9223372036854775808 ∧ ((∃ i, idx key l 0 = some i ∧ dep l key a most = (put2 l i ((rd_T27 l i).f2 + a), i, 0)) ∨ (idx key l 0 = none ∧ (l.length : Int) < most ∧ dep l key a most = (l ++ [⟨key, 0, a⟩], (l.length : Int), 0)))) := by
  unfold dep
  split
  · rename_i h
    split
    · rename_i i hi
      split
      · rename_i h2
        exact .inr ⟨h.1, h.2.1, h.2.2.1, h2, .inl ⟨i, hi, rfl⟩⟩
      · exact .inl ⟨11, by decide, rfl⟩
    · rename_i hi
      split
      · exact .inl ⟨4, by decide, rfl⟩
      · split
        · rename_i h1 h2
          exact .inr ⟨h.1, h.2.1, h.2.2.1, h2, .inr ⟨hi, by omega, rfl⟩⟩
        · exact .inl ⟨11, by decide, rfl⟩
  · exact .inl ⟨1, by decide, rfl⟩
end Go.Proofs.Ytoaeedepfmfkkaa.Lm
