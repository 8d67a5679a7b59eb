/- What the reference's numbers' functions answer, in plain Lean. No conditions. -/
import Derived.Test.YtbafkkbbjacekaaPSx6
import Derived.Test.YtbafkkbbjacekaaPSx5
import Derived.Test.YtbafkkbbjacekaaLmNat
namespace Go.Proofs.Ytbafkkbbjacekaa.Lm
open Go.RowKit Go.Proofs.YtbafkkbbjacekaaW.PrintWords Go.Proofs.Ytbafkkbbjacekaa.PS

theorem rtrim_p : ∀ (n k : Nat) (l : List Int), l.length = n → Lim l → n < k → n < 4611686018427387904 → drawlotref10_trim.f k l = some (nl (vl l)) := by
  intro n
  induction n with
  | zero =>
    intro k l hn hl hk hm
    obtain ⟨k, rfl⟩ : ∃ m, k = m + 1 := ⟨k - 1, by omega⟩
    simp only [drawlotref10_trim.f, drawlotref10_trim.l0]
    rw [if_neg (by omega), List.eq_nil_of_length_eq_zero hn]
    exact congrArg some nl_zero.symm
  | succ n ih =>
    intro k l hn hl hk hm
    obtain ⟨k, rfl⟩ : ∃ m, k = m + 1 := ⟨k - 1, by omega⟩
    simp only [drawlotref10_trim.f, drawlotref10_trim.l0, hn, nat_down (show n < 4611686018427387904 by omega)]
    rw [if_pos (by omega), if_pos (by omega), if_pos (by omega)]
    by_cases c : rd l (n : Int) = 0
    · rw [if_pos c, if_pos (by omega), Int.toNat_natCast]
      have := ih k (l.take n) (by rw [List.length_take]; omega) (hl.take n) (by omega) (by omega)
      have e := vl_take_succ l n
      rw [List.take_of_length_le (by omega), c] at e
      rw [show drawlotref10_trim.l0 k (l.take n) = drawlotref10_trim.f k (l.take n) from rfl, this, e]
      simp
    · rw [if_neg c, nl_vl ⟨hl, fun m hm => by have : m = n := by omega
                                              exact this ▸ c⟩]
theorem rof_p {a : Int} (h0 : 0 ≤ a) (h1 : a < 18446744073709551616) (k : Nat) (hk : 3 ≤ k) : drawlotref10_Of.f k a = some (nl a) := by
  unfold drawlotref10_Of.f
  rw [Int.tdiv_eq_ediv_of_nonneg h0, Int.tmod_eq_emod_of_nonneg h0, u64w_id (by omega) (by omega)]
  rw [rtrim_p 2 k _ rfl (Lim.cons (by omega) (Lim.cons (by omega) Lim.nil)) (by omega) (by omega), bs]
  simp only [vl]
  congr 2; omega
theorem limb_p {l : List Int} (hl : Lim l) (n : Nat) : drawlotref10_limb.f l (n : Int) = some (rd l (n : Int)) := by
  have := hl.rd n
  unfold drawlotref10_limb.f
  by_cases c : (n : Int) < (l.length : Int)
  · rw [if_pos c, if_pos (by omega), u64w_id (by omega) (by omega)]
  · rw [if_neg c, rd_out (by omega)]
theorem times_i {a b : List Int} (ha : Lim a) (hb : Lim b) (hm : a.length + b.length < 1000000) (i : Nat) (hi : i < a.length) : ∀ (d k n : Nat) (z : List Int) (w v : Int), n + d = b.length → z.length = a.length + b.length → Lim z → (∀ p : Nat, i + b.length ≤ p → rd z (p : Int) = 0) → 0 ≤ w → w < 4294967296 →
    vl z + w * 4294967296 ^ (i + n) = v + 4294967296 ^ i * (rd a (i : Int) * vl (b.take n)) → d + 2 < k →
    ∃ z' k', k ≤ k' + d + 2 ∧ drawlotref10_Times.l1 k a b z (i : Int) w (n : Int) = drawlotref10_Times.l0 k' a b z' ((i + 1 : Nat) : Int) ∧ z'.length = a.length + b.length ∧ Lim z' ∧ (∀ p : Nat, i + 1 + b.length ≤ p → rd z' (p : Int) = 0) ∧
      vl z' = v + 4294967296 ^ i * (rd a (i : Int) * vl b) := by
  intro d
  induction d with
  | zero =>
    intro k n z w v hn hz hl h0 hw0 hw1 hv hk
    obtain ⟨k, rfl⟩ : ∃ m, k = m + 1 + 1 := ⟨k - 2, by omega⟩
    have ra := ha.rd i
    rw [List.take_of_length_le (by omega), show i + n = i + b.length by omega] at hv
    generalize hK : k + 1 = K
    simp only [drawlotref10_Times.l1]
    rw [if_neg (by omega)]
    by_cases c : w > 0
    · have e0 : rd z ((i + n : Nat) : Int) = 0 := h0 _ (by omega)
      rw [if_pos c, w64_id (x := (i : Int) + (n : Int)) (by omega) (by omega), show (i : Int) + (n : Int) = ((i + n : Nat) : Int) by omega, if_pos (by omega), if_pos (by omega), if_pos (by omega), if_pos (by omega), limb_p hb, bs, rd_out (l := b) (by omega), Int.mul_zero, e0,
        u64w_id (x := 0) (by omega) (by omega), u64w_id (x := 0 + 0) (by omega) (by omega), u64w_id (x := 0 + 0 + w) (by omega) (by omega), Int.zero_add, Int.zero_add, Int.tmod_eq_emod_of_nonneg hw0, Int.tdiv_eq_ediv_of_nonneg hw0, Int.emod_eq_of_lt hw0 hw1, Int.emod_eq_of_lt hw0 hw1, Int.ediv_eq_zero_of_lt hw0 hw1, u64w_id (by omega) (by omega), nat_up (by omega), Int.toNat_natCast]
      rw [← hK]
      simp only [drawlotref10_Times.l1]
      rw [if_neg (by omega), if_neg (by omega), nat_up (by omega)]
      refine ⟨_, k, by omega, rfl, by rw [List.length_set]; exact hz, hl.set _ ⟨hw0, hw1⟩, fun p hp => by rw [rd_set_ne _ (by omega)]; exact h0 p (by omega), ?_⟩
      rw [vl_set (by omega), e0, show i + n = i + b.length by omega, ← hv]; grind
    · have hw : w = 0 := by omega
      rw [if_neg c, nat_up (by omega)]
      refine ⟨z, K, by omega, rfl, hz, hl, fun p hp => h0 p (by omega), ?_⟩
      rw [← hv, hw]; simp
  | succ d ih =>
    intro k n z w v hn hz hl h0 hw0 hw1 hv hk
    obtain ⟨k, rfl⟩ : ∃ m, k = m + 1 := ⟨k - 1, by omega⟩
    have ra := ha.rd i
    have rb := hb.rd n
    have rz := hl.rd (i + n)
    have hp : 0 ≤ rd a (i : Int) * rd b (n : Int) := Int.mul_nonneg ra.1 rb.1
    have hq : rd a (i : Int) * rd b (n : Int) ≤ 4294967295 * 4294967295 := Int.mul_le_mul (by omega) (by omega) rb.1 (by decide)
    simp only [drawlotref10_Times.l1]
    rw [if_pos (by omega), w64_id (x := (i : Int) + (n : Int)) (by omega) (by omega), show (i : Int) + (n : Int) = ((i + n : Nat) : Int) by omega, if_pos (by omega), if_pos (by omega), if_pos (by omega), if_pos (by omega), limb_p hb, bs, nat_up (by omega), Int.toNat_natCast,
      u64w_id (x := rd a (i : Int)) (by omega) (by omega), u64w_id (x := rd z ((i + n : Nat) : Int)) (by omega) (by omega)]
    have hpq : 0 ≤ rd z ((i + n : Nat) : Int) + rd a (i : Int) * rd b (n : Int) + w := by omega
    rw [u64w_id (x := rd a (i : Int) * rd b (n : Int)) hp (by omega), u64w_id (x := rd z ((i + n : Nat) : Int) + rd a (i : Int) * rd b (n : Int)) (by omega) (by omega), u64w_id (x := rd z ((i + n : Nat) : Int) + rd a (i : Int) * rd b (n : Int) + w) (by omega) (by omega),
      Int.tmod_eq_emod_of_nonneg hpq, Int.tdiv_eq_ediv_of_nonneg hpq]
    have e := Int.mul_ediv_add_emod (rd z ((i + n : Nat) : Int) + rd a (i : Int) * rd b (n : Int) + w) 4294967296
    have e0 : 0 ≤ (rd z ((i + n : Nat) : Int) + rd a (i : Int) * rd b (n : Int) + w) / 4294967296 := by omega
    have e1 : (rd z ((i + n : Nat) : Int) + rd a (i : Int) * rd b (n : Int) + w) / 4294967296 < 4294967296 := by omega
    have e2 : 0 ≤ (rd z ((i + n : Nat) : Int) + rd a (i : Int) * rd b (n : Int) + w) % 4294967296 ∧ (rd z ((i + n : Nat) : Int) + rd a (i : Int) * rd b (n : Int) + w) % 4294967296 < 4294967296 := by omega
    rw [u64w_id e0 (by omega), Int.emod_eq_of_lt e2.1 e2.2]
    obtain ⟨z', k', q⟩ := ih k (n + 1) (z.set (i + n) ((rd z ((i + n : Nat) : Int) + rd a (i : Int) * rd b (n : Int) + w) % 4294967296)) ((rd z ((i + n : Nat) : Int) + rd a (i : Int) * rd b (n : Int) + w) / 4294967296) v (by omega) (by rw [List.length_set]; exact hz) (hl.set _ e2) (fun p hp => by rw [rd_set_ne _ (by omega)]; exact h0 p hp) e0 e1 (by
      rw [vl_set (by omega), vl_take_succ, show i + (n + 1) = (i + n) + 1 by omega, Bsucc]
      generalize (rd z ((i + n : Nat) : Int) + rd a (i : Int) * rd b (n : Int) + w) / 4294967296 = q at *
      generalize (rd z ((i + n : Nat) : Int) + rd a (i : Int) * rd b (n : Int) + w) % 4294967296 = r at *
      have e : r = (rd z ((i + n : Nat) : Int) + rd a (i : Int) * rd b (n : Int) + w) - 4294967296 * q := by omega
      subst e
      rw [Int.pow_add] at hv ⊢
      generalize (4294967296 : Int) ^ i = Bi at *
      generalize (4294967296 : Int) ^ n = Bn at *
      grind) (by omega)
    exact ⟨z', k', by omega, q.2⟩
theorem times_l {a b : List Int} (ha : Lim a) (hb : Lim b) (hm : a.length + b.length < 1000000) : ∀ (d k n : Nat) (z : List Int), n + d = a.length → d * (b.length + 3) + a.length + b.length + 2 < k → z.length = a.length + b.length → Lim z → (∀ p : Nat, n + b.length ≤ p → rd z (p : Int) = 0) →
    vl z = vl (a.take n) * vl b → drawlotref10_Times.l0 k a b z (n : Int) = some (nl (vl a * vl b)) := by
  intro d
  induction d with
  | zero =>
    intro k n z hn hk hz hl h0 hv
    obtain ⟨k, rfl⟩ : ∃ m, k = m + 1 := ⟨k - 1, by omega⟩
    simp only [drawlotref10_Times.l0]
    rw [if_neg (by omega), rtrim_p z.length k z rfl hl (by omega) (by omega), bs, hv, List.take_of_length_le (by omega)]
  | succ d ih =>
    intro k n z hn hk hz hl h0 hv
    rw [Nat.succ_mul] at hk
    obtain ⟨k, rfl⟩ : ∃ m, k = m + 1 := ⟨k - 1, by omega⟩
    simp only [drawlotref10_Times.l0]
    rw [if_pos (by omega)]
    obtain ⟨z', k', hk', e, h1, h2, h3, h4⟩ := times_i ha hb hm n (by omega) b.length k 0 z 0 (vl z) (by omega) hz hl h0 (by omega) (by omega) (by simp [vl]) (by omega)
    rw [show ((0 : Nat) : Int) = 0 from rfl] at e
    rw [e]
    refine ih k' (n + 1) z' (by omega) (by omega) h1 h2 h3 ?_
    rw [h4, hv, vl_take_succ]; grind
theorem times_p {a b : Int} (ha : 0 ≤ a) (hb : 0 ≤ b) (hla : (nl a).length ≤ 512) (hlb : (nl b).length ≤ 512) (k : Nat) (hk : 300000 ≤ k) : drawlotref10_Times.f k (nl a) (nl b) = some (nl (a * b)) := by
  unfold drawlotref10_Times.f
  rw [w64_id (by omega) (by omega), if_pos (by omega), show (((nl a).length : Int) + ((nl b).length : Int)).toNat = (nl a).length + (nl b).length by omega, if_pos (by omega)]
  have hk : (nl a).length * ((nl b).length + 3) + (nl a).length + (nl b).length + 2 < k := by
    have := Nat.mul_le_mul hla (show (nl b).length + 3 ≤ 515 by omega); omega
  have := times_l (Lim_nl a) (Lim_nl b) (by omega) (nl a).length k 0 (List.replicate ((nl a).length + (nl b).length) 0) (by omega) hk (by simp) (Lim.zeros _) (fun p _ => rd_zeros _ p) (by rw [vl_zeros]; simp [vl])
  rw [vl_nl ha, vl_nl hb] at this
  exact this
theorem rsame_l (a : List Int) (hm : a.length < 4611686018427387904) : ∀ (d k n : Nat), n + d = a.length → d < k → drawlotref10_Same.l0 k a a (n : Int) = some true := by
  intro d
  induction d with
  | zero =>
    intro k n hn hk
    obtain ⟨k, rfl⟩ : ∃ m, k = m + 1 := ⟨k - 1, by omega⟩
    simp only [drawlotref10_Same.l0]
    rw [if_neg (by omega)]
  | succ d ih =>
    intro k n hn hk
    obtain ⟨k, rfl⟩ : ∃ m, k = m + 1 := ⟨k - 1, by omega⟩
    simp only [drawlotref10_Same.l0]
    rw [if_pos (by omega), if_pos (by omega), if_pos (by omega), if_pos trivial, nat_up (by omega)]
    exact ih k (n + 1) (by omega) (by omega)
theorem rsame_p (a : List Int) (k : Nat) (hk : a.length < k) (hm : a.length < 4611686018427387904) : drawlotref10_Same.f k a a = some true := by
  unfold drawlotref10_Same.f
  rw [if_pos rfl]
  exact rsame_l a hm a.length k 0 (by omega) hk
end Go.Proofs.Ytbafkkbbjacekaa.Lm
