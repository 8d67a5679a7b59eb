/- Each place owns as many tickets as its stake; the statement over lists alone. No conditions. -/
import Derived.Test.YtngacagfmpndmaaPFx17
import Derived.Test.YtngacagfmpndmaaLmFenR
namespace Go.Proofs.Ytngacagfmpndmaa.Pure
open Go.RowKit Go.Proofs.Ytngacagfmpndmaa.PF Go.Proofs.YtngacagfmpndmaaW.PrintWords Go.Proofs.YtngacagfmpndmaaW.PrintLast Go.Proofs.Ytngacagfmpndmaa.Lm
theorem alive11 (k : Nat) (hk : 80 ≤ k) : drawlotlaw11_alive.f k = some true := at_rounds (g := fun k => drawlotlaw11_alive.f k) (fun k => drawlotlaw11_alive.mono k) (k := 80) (k' := k) hk (r := true) (by decide +kernel)
/-- The stakes, each below 50. -/
def sml (l : List Int) : List Int := l.map fun x => Int.tmod x 50
theorem sml_length (l : List Int) : (sml l).length = l.length := by simp [sml]
theorem sml_bound {l : List Int} (hl : U64 l) : ∀ x ∈ sml l, 0 ≤ x ∧ x < 50 := by
  intro x hx
  obtain ⟨y, hy, rfl⟩ := List.mem_map.1 hx
  have := hl y hy
  rw [Int.tmod_eq_emod_of_nonneg this.1]
  omega
theorem sml_U64 {l : List Int} (hl : U64 l) : U64 (sml l) := fun x hx => by have := sml_bound hl x hx; omega
theorem rd_sml {l : List Int} {n : Nat} (h : n < l.length) : rd (sml l) (n : Int) = Int.tmod (rd l (n : Int)) 50 := by
  rw [rd_nat, rd_nat, List.getD_eq_getElem?_getD, List.getD_eq_getElem?_getD]
  simp [sml, List.getElem?_eq_getElem h]
theorem P_small {l : List Int} (hb : ∀ x ∈ l, 0 ≤ x ∧ x < 50) (n : Nat) : P l n ≤ 50 * n := by
  induction n with
  | zero => simp [P]
  | succ n ih =>
    by_cases h : n < l.length
    · obtain ⟨h', e⟩ := rd_lt (l := l) (i := (n : Int)) (by omega) (by omega)
      have := hb _ (List.getElem_mem h')
      rw [P_succ h, e]; omega
    · rw [P_all (by omega)]
      rw [P_all (by omega)] at ih
      omega
theorem owns_2 {s : List Int} (hl : U64 s) (hs : s.sum < 9223372036854775808) (hm : s.length < 41) : ∀ (d k t : Nat) (o : List Int), (t : Int) + d = s.sum → d + 300 < k → o.length = s.length →
    (∀ j, j < s.length → rd o (j : Int) = min (t : Int) (P s (j + 1)) - min (t : Int) (P s j)) → drawlotlaw11_FenOwns.l2 k s.sum s o (t : Int) (tre s) = some true := by
  intro d
  induction d with
  | zero =>
    intro k t o ht hk ho hv
    obtain ⟨k, rfl⟩ : ∃ m, k = m + 1 := ⟨k - 1, by omega⟩
    simp only [drawlotlaw11_FenOwns.l2]
    have e : o = s := ext_rd ho fun j hj => by
      have := P_succ (l := s) (n := j) (by omega)
      have h1 := P_le hl j
      have h2 := P_le hl (j + 1)
      rw [hv j (by omega)]; omega
    rw [if_neg (by omega), e, same_ok k s s (by omega) (by omega), bs, decide_eq_true rfl]
  | succ d ih =>
    intro k t o ht hk ho hv
    obtain ⟨k, rfl⟩ : ∃ m, k = m + 1 := ⟨k - 1, by omega⟩
    simp only [drawlotlaw11_FenOwns.l2]
    rw [if_pos (by omega), owner_ok hl hs (by omega) k (by omega) (by omega) (t : Int) (by omega), bs]
    rcases ownr_spec s 0 (t : Int) (by omega) hl with ⟨n, h1, h2, h3, h4, h5⟩ | ⟨h1, h2⟩
    · rw [h2, Int.zero_add]
      have hvn := hv n h1
      have b1 := P_le hl (n + 1)
      have b2 := P_nonneg hl n
      have h3' : P s n ≤ t := h3
      have h4' : (t : Int) < P s (n + 1) := h4
      rw [if_pos rfl, if_neg (by omega), if_neg (by omega), if_pos (by omega), if_pos (by omega), Int.toNat_natCast, u64w_id (x := rd o (n : Int) + 1) (by omega) (by omega), u64w_id (by omega) (by omega)]
      refine ih k (t + 1) _ (by omega) (by omega) (by simpa using ho) fun j hj => ?_
      rw [rd_set _ _ (by omega)]
      by_cases c : n = j
      · subst c
        rw [if_pos rfl, hvn]; omega
      · rw [if_neg c, hv j hj]
        rcases Nat.lt_or_gt_of_ne c with g | g
        · have := P_mono hl (a := n + 1) (b := j) g
          have := P_mono hl (a := j) (b := j + 1) (by omega)
          omega
        · have := P_mono hl (a := j + 1) (b := n) g
          have := P_mono hl (a := j) (b := j + 1) (by omega)
          omega
    · omega
theorem owns_1 {l : List Int} (hl : U64 l) (hm : l.length < 41) : ∀ (d k n : Nat), n + d = l.length → d + (sml l).sum.toNat + 400 < k → drawlotlaw11_FenOwns.l1 k l (sml l).sum ((sml l).take n) (n : Int) = some true := by
  have hb := sml_bound hl
  have hu := sml_U64 hl
  have hsum : (sml l).sum ≤ 50 * l.length := by
    have := P_small hb l.length
    rwa [P_all (by rw [sml_length]; omega)] at this
  have hsn := sum_nonneg hu
  intro d
  induction d with
  | zero =>
    intro k n hn hk
    obtain ⟨k, rfl⟩ : ∃ m, k = m + 1 := ⟨k - 1, by omega⟩
    simp only [drawlotlaw11_FenOwns.l1]
    rw [if_neg (by omega), List.take_of_length_le (by rw [sml_length]; omega), build_at k (sml l) hu (by rw [sml_length]; omega) (by rw [sml_length]; omega) (by omega), bs, if_pos rfl, if_pos (by omega), if_pos (by omega), Int.toNat_natCast]
    obtain ⟨q, hq⟩ := Int.eq_ofNat_of_zero_le hsn
    refine owns_2 hu (by omega) (by rw [sml_length]; omega) q k 0 _ (by omega) (by omega) (by simp [sml_length]) fun j hj => ?_
    have h1 := P_nonneg hu j
    have h2 := P_nonneg hu (j + 1)
    have e : rd (List.replicate l.length 0) (j : Int) = 0 := by rw [rd_nat, List.getD_eq_getElem?_getD, List.getElem?_replicate]; split <;> rfl
    rw [e]; omega
  | succ d ih =>
    intro k n hn hk
    obtain ⟨k, rfl⟩ : ∃ m, k = m + 1 := ⟨k - 1, by omega⟩
    simp only [drawlotlaw11_FenOwns.l1]
    rw [if_pos (by omega), if_pos (by omega), if_pos (by rw [List.length_take]; omega), step_cast (m := l.length) (by omega) (by omega), ← rd_sml (by omega), ← take_step (by rw [sml_length]; omega)]
    exact ih k (n + 1) (by omega) (by omega)
theorem owns_0 {l : List Int} (hl : U64 l) (hm : l.length < 9223372036854775807) : ∀ (d k n : Nat), n + d = l.length → n ≤ 50 → d + 3000 < k → drawlotlaw11_FenOwns.l0 k l (P (sml l) n) (n : Int) = some true := by
  have hb := sml_bound hl
  have hu := sml_U64 hl
  have fin : ∀ k n : Nat, 2999 < k → l.length ≤ n ∨ 50 ≤ n → (if (l.length : Int) > 40 then some true else drawlotlaw11_FenOwns.l1 k l (P (sml l) n) [] 0) = some true := by
    intro k n hk hn
    by_cases g : (l.length : Int) > 40
    · rw [if_pos g]
    · rw [if_neg g, P_all (by rw [sml_length]; omega)]
      have hsum : (sml l).sum ≤ 50 * l.length := by
        have := P_small hb l.length
        rwa [P_all (by rw [sml_length]; omega)] at this
      have h := owns_1 hl (by omega) l.length k 0 (by omega) (by omega)
      rw [List.take_zero] at h
      exact h
  intro d
  induction d with
  | zero =>
    intro k n hn h50 hk
    obtain ⟨k, rfl⟩ : ∃ m, k = m + 1 := ⟨k - 1, by omega⟩
    simp only [drawlotlaw11_FenOwns.l0]
    rw [if_neg (by omega)]
    exact fin k n (by omega) (by omega)
  | succ d ih =>
    intro k n hn h50 hk
    obtain ⟨k, rfl⟩ : ∃ m, k = m + 1 := ⟨k - 1, by omega⟩
    simp only [drawlotlaw11_FenOwns.l0]
    rw [if_pos (by omega)]
    by_cases g : n = 50
    · rw [if_neg (by omega)]
      exact fin k n (by omega) (by omega)
    · have h1 := P_small hb (n + 1)
      have h2 := P_nonneg hu (n + 1)
      have h3 := P_succ (l := sml l) (n := n) (by rw [sml_length]; omega)
      rw [if_pos (by omega), if_pos (by omega), step_cast (m := l.length) (by omega) hm, ← rd_sml (by omega), ← h3, u64w_id h2 (by omega)]
      exact ih k (n + 1) (by omega) (by omega) (by omega)
theorem FenOwns : drawlotlaw11_FenOwns.Pure := by
  intro l hm hs hw
  have hu := U64.of_wf hw
  refine ⟨l.length + 4000, ?_⟩
  unfold drawlotlaw11_FenOwns.f
  rw [alive11 _ (by omega), bs, if_pos rfl]
  have h := owns_0 hu (by omega) l.length (l.length + 4000) 0 (by omega) (by omega) (by omega)
  rw [P_zero] at h
  exact h
end Go.Proofs.Ytngacagfmpndmaa.Pure
