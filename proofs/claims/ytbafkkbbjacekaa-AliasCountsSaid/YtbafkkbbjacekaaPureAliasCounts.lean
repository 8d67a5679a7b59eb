/- Counted one by one each place owns its stake as often as there are places; the statement over lists alone. No conditions. -/
import Derived.Test.YtbafkkbbjacekaaPBx14
import Derived.Test.YtbafkkbbjacekaaLmAliasO
namespace Go.Proofs.Ytbafkkbbjacekaa.Pure
open Go.RowKit Go.Proofs.Ytbafkkbbjacekaa.PB Go.Proofs.YtbafkkbbjacekaaW.PrintWords Go.Proofs.YtbafkkbbjacekaaW.PrintLast Go.Proofs.Ytbafkkbbjacekaa.Lm
theorem alive14 (k : Nat) (hk : 30 ≤ k) : drawlotlaw14_alive.f k = some true := at_rounds (g := fun k => drawlotlaw14_alive.f k) (fun k => drawlotlaw14_alive.mono k) (k := 30) (k' := k) hk (r := true) (by decide +kernel)
/-- The stakes, each below 20. -/
def sml (l : List Int) : List Int := l.map fun x => Int.tmod x 20
theorem sml_length (l : List Int) : (sml l).length = l.length := by simp [sml]
theorem sml_bound {l : List Int} (hl : U64 l) : ∀ x ∈ sml l, 0 ≤ x ∧ x < 20 := by
  intro x hx
  obtain ⟨y, hy, rfl⟩ := List.mem_map.1 hx
  have := hl y hy
  rw [Int.tmod_eq_emod_of_nonneg this.1]
  omega
theorem sml_U64 {l : List Int} (hl : U64 l) : U64 (sml l) := fun x hx => by have := sml_bound hl x hx; omega
theorem sum_small : ∀ {l : List Int}, (∀ x ∈ l, 0 ≤ x ∧ x < 20) → l.sum ≤ 19 * l.length
  | [], _ => by simp
  | a :: l, h => by
    have h1 := h a (by simp)
    have h2 := sum_small (l := l) (fun j hj => h j (by simp [hj]))
    simp only [List.sum_cons, List.length_cons]; omega
/-- How often a place has owned a number, all columns ahead of c and o numbers of column c told. -/
def Qc (T : Int) (cl : List S62) (c : Nat) (o j : Int) : Int :=
  gave T (cl.take c) j + (if j < c then (rd_T62 cl j).f0 else 0) + (if j = c then min o (rd_T62 cl (c : Int)).f0 else 0) + (if (rd_T62 cl (c : Int)).f1 = j then max 0 (o - (rd_T62 cl (c : Int)).f0) else 0)
theorem gave_take {T j : Int} {cl : List S62} {c : Nat} (h : c < cl.length) : gave T (cl.take (c + 1)) j = gave T (cl.take c) j + (if (rd_T62 cl (c : Int)).f1 = j then T - (rd_T62 cl (c : Int)).f0 else 0) := by
  rw [List.take_succ_eq_append_getElem h, rdT_get h]
  unfold gave
  rw [List.map_append, List.sum_append]
  simp only [List.map_cons, List.map_nil, List.sum_cons, List.sum_nil, Int.add_zero]
theorem Qc_next {T : Int} {cl : List S62} {c : Nat} (h : c < cl.length) (h0 : 0 ≤ (rd_T62 cl (c : Int)).f0 ∧ (rd_T62 cl (c : Int)).f0 ≤ T) (hn : ∀ d : Nat, 0 ≤ (rd_T62 cl (d : Int)).f0) (j : Int) : Qc T cl c T j = Qc T cl (c + 1) 0 j := by
  unfold Qc
  have := hn (c + 1)
  rw [gave_take h, show min 0 (rd_T62 cl ((c + 1 : Nat) : Int)).f0 = 0 by omega, show max 0 (0 - (rd_T62 cl ((c + 1 : Nat) : Int)).f0) = 0 by omega]
  by_cases e : j = (c : Int)
  · subst e
    rw [if_neg (by omega), if_pos rfl, if_pos (show (c : Int) < ((c + 1 : Nat) : Int) by omega), if_neg (show ¬ (c : Int) = ((c + 1 : Nat) : Int) by omega)]
    split <;> split <;> omega
  · rw [if_neg e]
    by_cases a : j < (c : Int)
    · rw [if_pos a, if_pos (show j < ((c + 1 : Nat) : Int) by omega)]
      split <;> split <;> split <;> omega
    · rw [if_neg a, if_neg (show ¬ j < ((c + 1 : Nat) : Int) by omega)]
      split <;> split <;> split <;> omega
theorem Qc_step {T : Int} {cl : List S62} {c : Nat} {o : Int} (h0 : 0 ≤ (rd_T62 cl (c : Int)).f0) (ho : 0 ≤ o) (j : Int) : Qc T cl c (o + 1) j = Qc T cl c o j + (if j = (if o ≥ (rd_T62 cl (c : Int)).f0 then (rd_T62 cl (c : Int)).f1 else (c : Int)) then 1 else 0) := by
  unfold Qc
  by_cases a : o ≥ (rd_T62 cl (c : Int)).f0
  · rw [if_pos a]
    by_cases b : (rd_T62 cl (c : Int)).f1 = j
    · rw [if_pos b, if_pos b, if_pos b.symm]
      split <;> split <;> omega
    · rw [if_neg b, if_neg b, if_neg (show ¬ j = (rd_T62 cl (c : Int)).f1 from fun e => b e.symm)]
      split <;> split <;> omega
  · rw [if_neg a]
    by_cases b : j = (c : Int)
    · rw [if_pos b, if_pos b, if_pos b]
      split <;> split <;> omega
    · rw [if_neg b, if_neg b, if_neg b]
      split <;> split <;> omega
theorem divmod {T o : Int} (c : Int) (h0 : 0 ≤ o) (h1 : o < T) : (c * T + o) / T = c ∧ (c * T + o) % T = o :=
  (Int.ediv_emod_unique (by omega)).mpr ⟨by rw [Int.mul_comm T]; omega, h0, h1⟩
theorem counts_2 {s x : List Int} {o : List Int} (hx : x.length = s.length) (ho : o.length = s.length) (hm : s.length < 13) (hb : ∀ y ∈ s, 0 ≤ y ∧ y < 20) (hu : U64 s) (hv : ∀ j : Nat, j < s.length → rd o (j : Int) = s.length * rd s (j : Int)) : ∀ (d k n : Nat), n + d = s.length → d < k →
    drawlotlaw14_AliasCounts.l2 k x s o (n : Int) = some true := by
  intro d
  induction d with
  | zero =>
    intro k n hn hk
    obtain ⟨k, rfl⟩ : ∃ m, k = m + 1 := ⟨k - 1, by omega⟩
    simp only [drawlotlaw14_AliasCounts.l2]
    rw [if_neg (by omega)]
  | succ d ih =>
    intro k n hn hk
    obtain ⟨k, rfl⟩ : ∃ m, k = m + 1 := ⟨k - 1, by omega⟩
    simp only [drawlotlaw14_AliasCounts.l2]
    obtain ⟨h', e⟩ := rd_lt (l := s) (i := (n : Int)) (by omega) (by omega)
    have hbn := hb _ (List.getElem_mem h')
    rw [← e] at hbn
    have hp : 0 ≤ (s.length : Int) * rd s (n : Int) := Int.mul_nonneg (by omega) hbn.1
    have hq : (s.length : Int) * rd s (n : Int) ≤ 13 * 20 := Int.mul_le_mul (by omega) (by omega) hbn.1 (by omega)
    rw [if_pos (by omega), if_pos (by omega), if_pos (by omega), if_pos (by omega), hv n (by omega), hx, u64w_id (x := (s.length : Int)) (by omega) (by omega), u64w_id (by omega) (by omega), if_pos rfl, stepC (m := s.length) (by omega) (by omega)]
    exact ih k (n + 1) (by omega) (by omega)
theorem counts_1 {s x : List Int} (hx : x.length = s.length) (hu : U64 s) (hb : ∀ y ∈ s, 0 ≤ y ∧ y < 20) (hT : 0 < s.sum) (hm : s.length < 13) : ∀ (d k c : Nat) (o : Int) (w : List Int), (c : Int) * s.sum + o + d = s.length * s.sum → 0 ≤ o → o < s.sum → c ≤ s.length → d + 40 < k → w.length = s.length →
    (∀ j : Nat, j < s.length → rd w (j : Int) = Qc s.sum (tabS s) c o (j : Int) ∧ 0 ≤ rd w (j : Int) ∧ rd w (j : Int) ≤ (c : Int) * s.sum + o) → drawlotlaw14_AliasCounts.l1 k x s w ((c : Int) * s.sum + o) s.sum (tabS s) = some true := by
  have hsm := sum_small hb
  have hsz : (s.length : Int) * s.sum ≤ 12 * 228 := Int.mul_le_mul (by omega) (by omega) (by omega) (by omega)
  obtain ⟨h1, h2, h3, h4⟩ := tab_right hu hT (by omega)
  have hr := rightS_lt h2
  intro d
  induction d with
  | zero =>
    intro k c o w hd ho hT' hc hk hw hv
    obtain ⟨k, rfl⟩ : ∃ m, k = m + 1 := ⟨k - 1, by omega⟩
    simp only [drawlotlaw14_AliasCounts.l1]
    rw [size_ok k s.sum (tabS s) (by omega) (by omega) (by omega), bs]
    unfold sizeS
    rw [if_pos h2, h1, if_neg (by omega)]
    have hcn : c = s.length := by
      rcases Nat.lt_or_ge c s.length with g | g
      · have : ((c : Int) + 1) * s.sum ≤ s.length * s.sum := Int.mul_le_mul_of_nonneg_right (by omega) (by omega)
        rw [Int.add_mul] at this
        omega
      · omega
    subst hcn
    obtain rfl : o = 0 := by omega
    refine counts_2 hx hw hm hb hu (fun j hj => ?_) s.length k 0 (by omega) (by omega)
    rw [(hv j hj).1]
    have e := h4 (j : Int) (by omega) (by omega)
    unfold Qc
    rw [← h1, List.take_length, if_pos (by omega), if_neg (by omega)]
    have z : rd_T62 (tabS s) ((tabS s).length : Int) = z62 := by rw [rdT_nat, List.getD_eq_getElem?_getD, List.getElem?_eq_none (Nat.le_refl _)]; rfl
    rw [z, h1]
    show _ + _ + 0 + (if (0 : Int) = (j : Int) then max 0 (0 - 0) else 0) = _
    rw [show max (0 : Int) (0 - 0) = 0 by decide]
    split <;> omega
  | succ d ih =>
    intro k c o w hd ho hT' hc hk hw hv
    obtain ⟨k, rfl⟩ : ∃ m, k = m + 1 := ⟨k - 1, by omega⟩
    simp only [drawlotlaw14_AliasCounts.l1]
    rw [size_ok k s.sum (tabS s) (by omega) (by omega) (by omega), bs]
    unfold sizeS
    have hcs : 0 ≤ (c : Int) * s.sum := Int.mul_nonneg (by omega) (by omega)
    have hcl : c < s.length := by
      rcases Nat.lt_or_ge c s.length with g | g
      · exact g
      · have : (s.length : Int) * s.sum ≤ c * s.sum := Int.mul_le_mul_of_nonneg_right (by omega) (by omega)
        omega
    rw [if_pos h2, h1, if_pos (by omega), if_pos (by omega), owner_okA k s.sum (tabS s) (by omega) (by omega) (by omega) _ (by omega), bs]
    obtain ⟨e1, e2⟩ := divmod (c : Int) ho hT'
    have hcell : ∀ m : Nat, m < s.length → 0 ≤ (rd_T62 (tabS s) (m : Int)).f0 ∧ (rd_T62 (tabS s) (m : Int)).f0 ≤ s.sum ∧ 0 ≤ (rd_T62 (tabS s) (m : Int)).f1 ∧ (rd_T62 (tabS s) (m : Int)).f1 < s.length := fun m hm => by
      have a := h3.rd (m : Int)
      have b := hr.2.2.2 (rd_T62 (tabS s) (m : Int)) (by rw [rdT_get (by omega)]; exact List.getElem_mem _)
      omega
    have hc0 := hcell c hcl
    have hn0 : ∀ m : Nat, 0 ≤ (rd_T62 (tabS s) (m : Int)).f0 := fun m => (h3.rd (m : Int)).1
    have ho1 : ownerS s.sum (tabS s) ((c : Int) * s.sum + o) = ((if o ≥ (rd_T62 (tabS s) (c : Int)).f0 then (rd_T62 (tabS s) (c : Int)).f1 else (c : Int)), 0) := by
      unfold ownerS lookS
      rw [if_pos h2, if_pos (by rw [h1]; omega), if_pos h2, e1, e2, if_pos (by omega)]
      split <;> rfl
    have hS := Qc_step (T := s.sum) (cl := tabS s) (c := c) hc0.1 ho
    rw [ho1]
    generalize hg : (if o ≥ (rd_T62 (tabS s) (c : Int)).f0 then (rd_T62 (tabS s) (c : Int)).f1 else (c : Int)) = q at *
    have hq : 0 ≤ q ∧ q < s.length := by
      rw [← hg]; split <;> omega
    obtain ⟨m, rfl⟩ := Int.eq_ofNat_of_zero_le hq.1
    have hvm := hv m (by omega)
    rw [if_pos rfl, if_neg (by omega), if_neg (by omega), if_pos (by omega), if_pos (by omega), Int.toNat_natCast, u64w_id (x := rd w (m : Int) + 1) (by omega) (by omega), u64w_id (by omega) (by omega)]
    have hset : ∀ j : Nat, j < s.length → rd (w.set m (rd w (m : Int) + 1)) (j : Int) = rd w (j : Int) + (if (j : Int) = (m : Int) then 1 else 0) := fun j hj => by
      have := rd_setI (l := w) (i := (m : Int)) (rd w (m : Int) + 1) (j : Int) (by omega) (by omega) (by omega)
      rw [Int.toNat_natCast] at this
      rw [this]
      by_cases e : (m : Int) = j
      · rw [if_pos e, if_pos e.symm, e]
      · rw [if_neg e, if_neg (fun z => e z.symm)]; omega
    by_cases f : o + 1 < s.sum
    · rw [show (c : Int) * s.sum + o + 1 = (c : Int) * s.sum + (o + 1) by omega]
      refine ih k c (o + 1) _ (by omega) (by omega) f hc (by omega) (by rw [List.length_set]; exact hw) fun j hj => ?_
      have := hv j hj
      rw [hset j hj, hS (j : Int), this.1]
      refine ⟨rfl, ?_, ?_⟩ <;> rw [← this.1] <;> split <;> omega
    · have eT : o + 1 = s.sum := by omega
      have ec : ((c + 1 : Nat) : Int) * s.sum = (c : Int) * s.sum + s.sum := by rw [show ((c + 1 : Nat) : Int) = (c : Int) + 1 by omega, Int.add_mul]; omega
      rw [show (c : Int) * s.sum + o + 1 = ((c + 1 : Nat) : Int) * s.sum + 0 by omega]
      refine ih k (c + 1) 0 _ (by omega) (by omega) (by omega) (by omega) (by omega) (by rw [List.length_set]; exact hw) fun j hj => ?_
      have := hv j hj
      have hQ : Qc s.sum (tabS s) (c + 1) 0 (j : Int) = Qc s.sum (tabS s) c (o + 1) (j : Int) := by rw [← Qc_next (by omega) ⟨hc0.1, hc0.2.1⟩ hn0, eT]
      rw [hset j hj, hQ, hS (j : Int), this.1]
      refine ⟨rfl, ?_, ?_⟩ <;> rw [← this.1] <;> split <;> omega
theorem rd_sml {l : List Int} {n : Nat} (h : n < l.length) : rd (sml l) (n : Int) = Int.tmod (rd l (n : Int)) 20 := by
  rw [rd_nat, rd_nat, List.getD_eq_getElem?_getD, List.getD_eq_getElem?_getD]
  simp [sml, List.getElem?_eq_getElem h]
theorem counts_0 {l : List Int} (hl : U64 l) (hm : l.length < 13) : ∀ (d k n : Nat), n + d = l.length → d + 3000 < k → drawlotlaw14_AliasCounts.l0 k l ((sml l).take n) (n : Int) = some true := by
  have hb := sml_bound hl
  have hu := sml_U64 hl
  have hlen := sml_length l
  have hsm := sum_small hb
  have hs0 := sum_nonneg hu
  intro d
  induction d with
  | zero =>
    intro k n hn hk
    obtain ⟨k, rfl⟩ : ∃ m, k = m + 1 := ⟨k - 1, by omega⟩
    simp only [drawlotlaw14_AliasCounts.l0]
    rw [if_neg (by omega), List.take_of_length_le (by omega), buildA_ok k _ hu (by omega) (by omega), bs]
    have hsz : ((sml l).length : Int) * (sml l).sum ≤ 12 * 228 := Int.mul_le_mul (by omega) (by omega) (by omega) (by omega)
    unfold buildS
    by_cases z : (sml l).length = 0
    · rw [if_pos z, if_neg (by decide), if_pos rfl]; rfl
    · rw [if_neg z, if_pos (show (sml l).sum < 9223372036854775808 by omega)]
      by_cases e : (sml l).sum = 0
      · rw [if_pos e, if_neg (by decide), if_pos rfl]; rfl
      · rw [if_neg e, if_pos (show ((sml l).length : Int) * (sml l).sum < 9223372036854775808 by omega), if_pos rfl, if_pos (by omega), if_pos (by omega)]
        have hT : 0 < (sml l).sum := by omega
        have hnn : 0 ≤ ((sml l).length : Int) * (sml l).sum := Int.mul_nonneg (by omega) (by omega)
        have := counts_1 (s := sml l) (x := l) hlen.symm hu hb hT (by omega) (((sml l).length : Int) * (sml l).sum).toNat k 0 0 (List.replicate l.length 0) (by omega) (by omega) hT (by omega) (by omega) (by rw [List.length_replicate]; omega) (fun j hj => by
          have e0 : rd (List.replicate l.length 0) (j : Int) = 0 := by
            rw [rd_nat, List.getD_eq_getElem?_getD, List.getElem?_replicate]; split <;> rfl
          rw [e0]
          refine ⟨?_, by omega, by omega⟩
          have h3 := (tab_right hu hT (by omega)).2.2.1
          have := (h3.rd ((0 : Nat) : Int)).1
          unfold Qc
          rw [List.take_zero, show min 0 (rd_T62 (tabS (sml l)) ((0 : Nat) : Int)).f0 = 0 by omega, show max 0 (0 - (rd_T62 (tabS (sml l)) ((0 : Nat) : Int)).f0) = 0 by omega, if_neg (by omega)]
          simp [gave])
        rw [show ((0 : Nat) : Int) * (sml l).sum + 0 = 0 by simp] at this
        rw [Int.toNat_natCast]
        exact this
  | succ d ih =>
    intro k n hn hk
    obtain ⟨k, rfl⟩ : ∃ m, k = m + 1 := ⟨k - 1, by omega⟩
    simp only [drawlotlaw14_AliasCounts.l0]
    have h1 : ((sml l).take n).length ≤ n := by rw [List.length_take]; omega
    rw [if_pos (by omega), if_pos (by omega), if_pos (by omega), ← rd_sml (by omega), ← take_step (by omega), stepC (m := l.length) (by omega) (by omega)]
    exact ih k (n + 1) (by omega) (by omega)
theorem AliasCounts : drawlotlaw14_AliasCounts.Pure := by
  intro l hm hb hw
  have hl := U64.of_wf hw
  refine ⟨l.length + 3100, ?_⟩
  unfold drawlotlaw14_AliasCounts.f
  rw [alive14 _ (by omega), bs, if_pos rfl]
  by_cases h : (l.length : Int) > 12
  · rw [if_pos h]
  · rw [if_neg h]
    exact counts_0 hl (by omega) l.length _ 0 (by omega) (by omega)
end Go.Proofs.Ytbafkkbbjacekaa.Pure
