/- Whatever is done with validators, they may be, and stakes change by activation alone; the statement over lists alone. No conditions. -/
import Derived.Test.YtoaeedepfmfkkaaPBx13
import Derived.Test.YtoaeedepfmfkkaaLmBookT
namespace Go.Proofs.Ytoaeedepfmfkkaa.Pure
open Go.RowKit Go.Proofs.Ytoaeedepfmfkkaa.PB Go.Proofs.YtoaeedepfmfkkaaW.PrintWords Go.Proofs.YtoaeedepfmfkkaaW.PrintLast Go.Proofs.Ytoaeedepfmfkkaa.Lm
/-- An act that may come in. -/
def AW (x : S47) : Prop := x.f2.length = 32 ∧ (0 ≤ x.f3 ∧ x.f3 < 18446744073709551616)
/-- What one act leaves: no fewer, the same keys; stakes as they were (c false), or those that were for the next epoch (c true). -/
def Step (l m : List S27) (c : Bool) : Prop := RT m ∧ VL m ∧ l.length ≤ m.length ∧ m.length ≤ l.length + 1 ∧ ∀ q : Nat, q < l.length → (rd_T27 m (q : Int)).f0 = (rd_T27 l (q : Int)).f0 ∧ (rd_T27 m (q : Int)).f1 = if c then (rd_T27 l (q : Int)).f2 else (rd_T27 l (q : Int)).f1
theorem acts_l1 (x0 : List S47) (x1 : Int) (l m : List S27) (n : Nat) (hn : n < x0.length) (hL : VL l) (hs : Step l m (decide ((rd_T47 x0 (n : Int)).f0 < 0 ∨ (rd_T47 x0 (n : Int)).f0 > 2))) (hm : l.length ≤ 1000) (hn0 : n ≤ 1000) :
    ∀ (d k q : Nat), q + d = l.length → (∃ k', k = k' + d + 1 ∧ drawlotlaw22_BookActs.l0 k' x0 x1 m ((n + 1 : Nat) : Int) = some true) → drawlotlaw22_BookActs.l1 k x0 x1 l (n : Int) m (q : Int) = some true := by
  obtain ⟨_, hM, hle, _, hq⟩ := hs
  intro d
  induction d with
  | zero =>
    rintro k q hd ⟨k', rfl, h⟩
    simp only [drawlotlaw22_BookActs.l1]
    rw [if_neg (by omega), w64_id (by omega) (by omega), show (n : Int) + 1 = ((n + 1 : Nat) : Int) by omega]
    exact h
  | succ d ih =>
    rintro k q hd ⟨k', rfl, h⟩
    obtain ⟨h1, h2⟩ := hq q (by omega)
    have ih' := ih (k' + d + 1) (q + 1) (by omega) ⟨k', rfl, h⟩
    rw [show k' + (d + 1) + 1 = (k' + d + 1) + 1 by omega]
    generalize hK : k' + d + 1 = K at ih' ⊢
    simp only [drawlotlaw22_BookActs.l1]
    rw [w64_id (by omega) (by omega), show (q : Int) + 1 = ((q + 1 : Nat) : Int) by omega, ih']
    have he : Ar.eqb 32 ((rd_T27 m (q : Int)).f0) ((rd_T27 l (q : Int)).f0) = true := by rw [eqb32 (rd27_VW hM (by omega)).1 (rd27_VW hL (by omega)).1, h1]; simp
    rw [if_pos (by omega), if_pos (by omega), if_pos (by omega)]
    by_cases c0 : (rd_T47 x0 (n : Int)).f0 < 0
    · rw [if_pos c0, if_pos (by omega), if_pos (by omega), if_pos he]
      rw [if_pos (by simp [c0])] at h2
      rw [if_pos h2]
    · rw [if_neg c0, if_pos (by omega), if_pos (by omega), if_pos he]
      by_cases c2 : (rd_T47 x0 (n : Int)).f0 > 2
      · rw [if_pos (by simp [c2])] at h2
        rw [if_pos c2, if_pos c2, if_pos h2]
      · rw [if_neg (by simp; omega)] at h2
        rw [if_neg c2, if_pos h2, if_neg c2]
theorem step_dep {l : List S27} (hL : VL l) {key : List Int} (hk : key.length = 32) {a most : Int} (ha : 0 ≤ a ∧ a < 18446744073709551616) (hlm : (l.length : Int) ≤ mx most 0) :
    ((dep l key a most).2.2 ≠ 0 ∧ (dep l key a most).1 = []) ∨ ((dep l key a most).2.2 = 0 ∧ Step l (dep l key a most).1 false ∧ ((dep l key a most).1.length : Int) ≤ mx most 0) := by
  obtain ⟨h1, h2⟩ := hL.dep (key := key) (a := a) (most := most) hk ha
  rcases dep_cases l key a most with ⟨e, he, hd⟩ | ⟨hR, ha0, hmo, hb, ⟨i, hi, hd⟩ | ⟨hi, hlt, hd⟩⟩
  · rw [hd]; exact .inl ⟨he, rfl⟩
  · have hr := idx_range key l 0 i hi
    obtain ⟨n, rfl⟩ := Int.eq_ofNat_of_zero_le hr.1
    have hn : n < l.length := by omega
    have hf := nxt_le hL (i := (n : Int)) (by omega) (by omega)
    rw [hd] at h1 h2 ⊢
    refine .inr ⟨rfl, ⟨hR.put2 hn (by omega), h1, by simp [put2_len], by simp [put2_len], fun q hq => ?_⟩, by simpa [put2_len] using hlm⟩
    exact put2_ne l n q hn hq _
  · rw [hd] at h1 h2 ⊢
    refine .inr ⟨rfl, ⟨hR.snoc hi hb, h1, by simp, by simp, fun q hq => ?_⟩, by simp [mx]; split <;> omega⟩
    rw [rd27_nat _ q (by simp; omega), rd27_nat l q hq]
    simp [List.getElem_append_left hq]
theorem step_wd {l : List S27} (hL : VL l) {who a : Int} (ha : 0 ≤ a ∧ a < 18446744073709551616) :
    ((wd l who a).2.2 ≠ 0 ∧ (wd l who a).1 = []) ∨ ((wd l who a).2.2 = 0 ∧ Step l (wd l who a).1 false ∧ (wd l who a).1.length = l.length) := by
  obtain ⟨h1, h2⟩ := hL.wd (who := who) ha
  unfold wd at h1 h2 ⊢
  split
  · rename_i hR
    rw [if_pos hR] at h1 h2
    split
    · rename_i hw
      rw [if_pos hw] at h1 h2
      split
      · exact .inl ⟨by decide, rfl⟩
      · rename_i ha'
        rw [if_neg ha'] at h1 h2
        obtain ⟨n, rfl⟩ := Int.eq_ofNat_of_zero_le hw.1
        have hn : n < l.length := by omega
        have hs := hR.1.2.1
        refine .inr ⟨rfl, ⟨hR.1.put2 hn (by omega), h1, by simp [put2_len], by simp [put2_len], fun q hq => ?_⟩, by simp [put2_len]⟩
        exact put2_ne l n q hn hq _
    · exact .inl ⟨by decide, rfl⟩
  · exact .inl ⟨by decide, rfl⟩
theorem step_sl {l : List S27} (hL : VL l) {who a : Int} (ha : 0 ≤ a ∧ a < 18446744073709551616) :
    ((sl l who a).2.2 ≠ 0 ∧ (sl l who a).1 = []) ∨ ((sl l who a).2.2 = 0 ∧ Step l (sl l who a).1 false ∧ (sl l who a).1.length = l.length) := by
  obtain ⟨h1, h2⟩ := hL.sl (who := who) ha
  unfold sl at h1 h2 ⊢
  split
  · rename_i hR
    rw [if_pos hR] at h1 h2
    split
    · rename_i hw
      rw [if_pos hw] at h1 h2
      obtain ⟨n, rfl⟩ := Int.eq_ofNat_of_zero_le hw.1
      have hn : n < l.length := by omega
      have hs := hR.2.1
      have hf0 := (rd27_VW hL hn).2.2
      have hmn : 0 ≤ mn a (rd_T27 l (n : Int)).f2 := by unfold mn; split <;> omega
      refine .inr ⟨rfl, ⟨hR.put2 hn (by omega), h1, by simp [put2_len], by simp [put2_len], fun q hq => ?_⟩, by simp [put2_len]⟩
      exact put2_ne l n q hn hq _
    · exact .inl ⟨by decide, rfl⟩
  · exact .inl ⟨by decide, rfl⟩
theorem step_act {l : List S27} (hL : VL l) (hR : RT l) : Step l (actv l) true := by
  refine ⟨hR.actv, hL.actv, by simp [actv], by simp [actv], fun q hq => ?_⟩
  rw [rd27_nat _ q (by simpa [actv] using hq), rd27_nat l q hq]
  simp [actv]
theorem acts_l0 (x0 : List S47) (hx : ∀ x ∈ x0, AW x) (hlen : x0.length ≤ 40) (x1 : Int) : ∀ (d n k : Nat) (l : List S27), n + d = x0.length → VL l → RT l → l.length ≤ n → (l.length : Int) ≤ mx x1 0 → d * 60 + 3000 ≤ k →
    drawlotlaw22_BookActs.l0 k x0 x1 l (n : Int) = some true := by
  intro d
  induction d with
  | zero =>
    intro n k l hn hL hR hl hlm hk
    obtain ⟨k, rfl⟩ : ∃ m, k = m + 1 := ⟨k - 1, by omega⟩
    simp only [drawlotlaw22_BookActs.l0]
    rw [if_neg (by omega)]
  | succ d ih =>
    intro n k l hn hL hR hl hlm hk
    have hq := sq_le (show l.length ≤ 40 by omega)
    obtain ⟨k, rfl⟩ : ∃ m, k = m + 3 := ⟨k - 3, by omega⟩
    have hw : AW (rd_T47 x0 (n : Int)) := by
      have e : rd_T47 x0 (n : Int) = x0[n]'(by omega) := by simp [rd_T47, List.getD, show n < x0.length by omega]
      rw [e]; exact hx _ (List.getElem_mem _)
    have hbad : ∀ e : Int, e ≠ 0 → drawlotlaw22_BookActs.j1 (k + 1 + 1) x0 x1 l (n : Int) [] e = some true := fun e he => by
      simp only [drawlotlaw22_BookActs.j1]
      rw [if_neg he, if_neg (by simp), w64_id (by omega) (by omega), show (n : Int) + 1 = ((n + 1 : Nat) : Int) by omega]
      exact ih (n + 1) (k + 1) l (by omega) hL hR (by omega) hlm (by omega)
    have hgood : ∀ m : List S27, Step l m (decide ((rd_T47 x0 (n : Int)).f0 < 0 ∨ (rd_T47 x0 (n : Int)).f0 > 2)) → (m.length : Int) ≤ mx x1 0 → drawlotlaw22_BookActs.j1 (k + 1 + 1) x0 x1 l (n : Int) m 0 = some true := fun m hs hmm => by
      have hs' := hs
      obtain ⟨hRm, hLm, h3, h4, _⟩ := hs
      have hq' := sq_le (show m.length ≤ 41 by omega)
      simp only [drawlotlaw22_BookActs.j1]
      rw [if_pos trivial, rright_ok (k + 1) m hLm (by omega) (by omega), bs, if_pos (decide_eq_true hRm), if_neg (by omega)]
      simp only [drawlotlaw22_BookActs.j2]
      rw [if_neg (by simpa using hmm)]
      have h0 := acts_l1 x0 x1 l m n (by omega) hL hs' (by omega) (by omega) l.length k 0 (by omega) ⟨k - l.length - 1, by omega, ih (n + 1) (k - l.length - 1) m (by omega) hLm hRm (by omega) hmm (by omega)⟩
      exact h0
    simp only [drawlotlaw22_BookActs.l0]
    rw [if_pos (by omega), if_pos (by omega)]
    by_cases c0 : (rd_T47 x0 (n : Int)).f0 = 0
    · rw [if_pos c0, deposit_ok _ l hL (by omega) (by omega) _ hw.1 _ _ hw.2, bs]
      rw [c0] at hgood
      rcases step_dep hL hw.1 hw.2 hlm with ⟨h1, h2⟩ | ⟨h1, h2, h3⟩
      · rw [h2]; exact hbad _ h1
      · rw [h1]; exact hgood _ h2 h3
    rw [if_neg c0]
    by_cases c1 : (rd_T47 x0 (n : Int)).f0 = 1
    · rw [if_pos c1, withdraw_ok _ l hL (by omega) (by omega) _ _ hw.2, bs]
      rw [c1] at hgood
      rcases step_wd hL (who := (rd_T47 x0 (n : Int)).f1) hw.2 with ⟨h1, h2⟩ | ⟨h1, h2, h3⟩
      · rw [h2]; exact hbad _ h1
      · rw [h1]; exact hgood _ h2 (by rw [h3]; exact hlm)
    rw [if_neg c1]
    by_cases c2 : (rd_T47 x0 (n : Int)).f0 = 2
    · rw [if_pos c2, slash_ok _ l hL (by omega) (by omega) _ _ hw.2, bs]
      rw [c2] at hgood
      rcases step_sl hL (who := (rd_T47 x0 (n : Int)).f1) hw.2 with ⟨h1, h2⟩ | ⟨h1, h2, h3⟩
      · rw [h2]; exact hbad _ h1
      · rw [h1]; exact hgood _ h2 (by rw [h3]; exact hlm)
    rw [if_neg c2, activate_ok _ l (by omega) (by omega), bs]
    refine hgood _ ?_ (by simpa [actv] using hlm)
    rw [decide_eq_true (by omega)]
    exact step_act hL hR
theorem BookActs : drawlotlaw22_BookActs.Pure := by
  intro x0 x1 hx _
  have hX : ∀ x ∈ x0, AW x := fun x hx' => by
    obtain ⟨_, _, h1, h2⟩ := hx.2 x hx'
    exact ⟨h1.1, wf64 h2⟩
  clear hx
  refine ⟨20000, ?_⟩
  unfold drawlotlaw22_BookActs.f
  rw [alive22 _ (by omega), bs, if_pos rfl]
  by_cases h : (x0.length : Int) > 40
  · rw [if_pos h]
  rw [if_neg h]
  exact acts_l0 x0 hX (by omega) x1 x0.length 0 20000 [] (by omega) (fun x hx => by simp at hx) RT.nil (by simp) (by simp [mx]; split <;> omega) (by omega)
end Go.Proofs.Ytoaeedepfmfkkaa.Pure
