/- What the reference's numbers' functions answer, in plain Lean. No conditions. -/
import Derived.Test.YtgfkclgpphnjfaaDoorPNx7
import Derived.Test.YtgfkclgpphnjfaaDoorPNx9
import Derived.Test.YtgfkclgpphnjfaaDoorPNx10
import Derived.Test.YtgfkclgpphnjfaaDoorPNx6
import Derived.Test.YtgfkclgpphnjfaaDoorPNx8
import Derived.Test.YtgfkclgpphnjfaaDoorLmNat
namespace Go.Proofs.YtgfkclgpphnjfaaDoor.Lm
open Go.RowKit Go.Proofs.YtgfkclgpphnjfaaDoorW.PrintWords Go.Proofs.YtgfkclgpphnjfaaDoor.PN

theorem rtrim_p : ∀ (n k : Nat) (l : List Int), l.length = n → Lim l → n < k → n < 4611686018427387904 → drawlotref10_trim.f k l = some (nl (vl l)) := by
  intro n
  induction n with
  | zero =>
    intro k l hn hl hk hm
    obtain ⟨k, rfl⟩ : ∃ m, k = m + 1 := ⟨k - 1, by omega⟩
    simp only [drawlotref10_trim.f, drawlotref10_trim.l0]
    rw [if_neg (by omega), List.eq_nil_of_length_eq_zero hn]
    exact congrArg some nl_zero.symm
  | succ n ih =>
    intro k l hn hl hk hm
    obtain ⟨k, rfl⟩ : ∃ m, k = m + 1 := ⟨k - 1, by omega⟩
    simp only [drawlotref10_trim.f, drawlotref10_trim.l0, hn, nat_down (show n < 4611686018427387904 by omega)]
    rw [if_pos (by omega), if_pos (by omega), if_pos (by omega)]
    by_cases c : rd l (n : Int) = 0
    · rw [if_pos c, if_pos (by omega), Int.toNat_natCast]
      have := ih k (l.take n) (by rw [List.length_take]; omega) (hl.take n) (by omega) (by omega)
      have e := vl_take_succ l n
      rw [List.take_of_length_le (by omega), c] at e
      rw [show drawlotref10_trim.l0 k (l.take n) = drawlotref10_trim.f k (l.take n) from rfl, this, e]
      simp
    · rw [if_neg c, nl_vl ⟨hl, fun m hm => by have : m = n := by omega
                                              exact this ▸ c⟩]
theorem rof_p {a : Int} (h0 : 0 ≤ a) (h1 : a < 18446744073709551616) (k : Nat) (hk : 3 ≤ k) : drawlotref10_Of.f k a = some (nl a) := by
  unfold drawlotref10_Of.f
  rw [Int.tdiv_eq_ediv_of_nonneg h0, Int.tmod_eq_emod_of_nonneg h0, u64w_id (by omega) (by omega)]
  rw [rtrim_p 2 k _ rfl (Lim.cons (by omega) (Lim.cons (by omega) Lim.nil)) (by omega) (by omega), bs]
  simp only [vl]
  congr 2; omega
theorem rtwo_l (a : Int) (h0 : 0 ≤ a) (h1 : a < 8192) (z : List Int) (hz : z.length = a.toNat / 32 + 1) : ∀ (d k n : Nat), n + d = a.toNat % 32 → d < k → drawlotref10_Two.l0 k a z (2 ^ n) (n : Int) = some (z.set (a.toNat / 32) (2 ^ (a.toNat % 32)), 0) := by
  have e1 : Int.tdiv a 32 = ((a.toNat / 32 : Nat) : Int) := by rw [Int.tdiv_eq_ediv_of_nonneg h0]; omega
  have e2 : Int.tmod a 32 = ((a.toNat % 32 : Nat) : Int) := by rw [Int.tmod_eq_emod_of_nonneg h0]; omega
  intro d
  induction d with
  | zero =>
    intro k n hn hk
    obtain ⟨k, rfl⟩ : ∃ m, k = m + 1 := ⟨k - 1, by omega⟩
    simp only [drawlotref10_Two.l0]
    rw [e1, e2, w64_id (x := ((a.toNat / 32 : Nat) : Int)) (by omega) (by omega), if_neg (by omega), if_pos (by omega), if_pos (by omega), Int.toNat_natCast, ← hn, Nat.add_zero]
  | succ d ih =>
    intro k n hn hk
    obtain ⟨k, rfl⟩ : ∃ m, k = m + 1 := ⟨k - 1, by omega⟩
    have := two_pow_lt (n := n + 1) (by omega)
    simp only [drawlotref10_Two.l0]
    rw [e2, if_pos (by omega), nat_up (by omega), Int.mul_comm, ← Int.pow_succ, Int.emod_eq_of_lt (by omega) this.2]
    exact ih k (n + 1) (by omega) (by omega)
theorem rtwo_p {a : Int} (h0 : 0 ≤ a) (h1 : a < 8192) (k : Nat) (hk : 40 ≤ k) : drawlotref10_Two.f k a = some (nl (2 ^ a.toNat), 0) := by
  unfold drawlotref10_Two.f
  obtain ⟨k, rfl⟩ : ∃ m, k = m + 1 := ⟨k - 1, by omega⟩
  have e1 : Int.tdiv a 32 = ((a.toNat / 32 : Nat) : Int) := by rw [Int.tdiv_eq_ediv_of_nonneg h0]; omega
  rw [if_neg (by omega)]
  simp only [drawlotref10_Two.j0]
  rw [if_neg (by simp; omega), e1, w64_id (x := ((a.toNat / 32 : Nat) : Int)) (by omega) (by omega), nat_up (by omega), if_pos (by omega), Int.toNat_natCast, if_pos (by omega)]
  have := rtwo_l a h0 h1 (List.replicate (a.toNat / 32 + 1) 0) (by simp) (a.toNat % 32) k 0 (by omega) (by omega)
  rw [← two_val] at this
  exact this
theorem rright_p {l : List Int} (h : Can l) (hl : l.length ≤ 256) : drawlotref10_Right.f l = some true := by
  unfold drawlotref10_Right.f
  rw [if_pos (by omega)]
  by_cases e : l.length = 0
  · rw [if_pos (by omega)]
  · obtain ⟨n, hn⟩ : ∃ n, l.length = n + 1 := ⟨l.length - 1, by omega⟩
    rw [hn, nat_down (by omega), if_neg (by omega), if_pos (by omega), if_pos (by omega)]
    have := h.2 n hn
    simp [this]
theorem rcmp_l {a b : List Int} (ha : Lim a) (hb : Lim b) (hab : a.length = b.length) (hm : a.length < 4611686018427387904) (h : vl b ≤ vl a) : ∀ (n k : Nat), n ≤ a.length → n < k → a.drop n = b.drop n →
    ∃ c, drawlotref10_Cmp.l0 k a b ((n : Int) - 1) = some c ∧ ¬ c < 0 := by
  intro n
  induction n with
  | zero =>
    intro k hn hk he
    obtain ⟨k, rfl⟩ : ∃ m, k = m + 1 := ⟨k - 1, by omega⟩
    simp only [drawlotref10_Cmp.l0]
    rw [if_neg (by omega)]
    exact ⟨0, rfl, by decide⟩
  | succ n ih =>
    intro k hn hk he
    obtain ⟨k, rfl⟩ : ∃ m, k = m + 1 := ⟨k - 1, by omega⟩
    rw [show ((n + 1 : Nat) : Int) - 1 = (n : Int) by omega]
    simp only [drawlotref10_Cmp.l0]
    rw [if_pos (by omega), if_pos (by omega), if_pos (by omega), if_pos (by omega)]
    by_cases c : rd a (n : Int) < rd b (n : Int)
    · have := vl_top ha hb n he c; omega
    · rw [if_neg c]
      by_cases d : rd a (n : Int) > rd b (n : Int)
      · rw [if_pos d]; exact ⟨1, rfl, by decide⟩
      · rw [if_neg d, w64_id (by omega) (by omega)]
        refine ih k (by omega) (by omega) ?_
        rw [drop_step (l := a) (by omega), drop_step (l := b) (by omega), he, show rd a (n : Int) = rd b (n : Int) by omega]
theorem rcmp_p {a b : Int} (hb : 0 ≤ b) (h : b ≤ a) (hm : (nl a).length ≤ 256) (k : Nat) (hk : 302 ≤ k) : ∃ c, drawlotref10_Cmp.f k (nl a) (nl b) = some c ∧ ¬ c < 0 := by
  have hl := nl_len_mono hb h
  unfold drawlotref10_Cmp.f
  obtain ⟨k, rfl⟩ : ∃ m, k = m + 1 := ⟨k - 1, by omega⟩
  rw [rright_p (Can_nl a) hm, bs, if_pos rfl, rright_p (Can_nl b) (by omega), bs]
  simp only [drawlotref10_Cmp.j0]
  rw [if_neg (by simp)]
  by_cases e : (nl a).length = (nl b).length
  · rw [if_pos (by omega), w64_id (by omega) (by omega)]
    exact rcmp_l (Lim_nl a) (Lim_nl b) e (by omega) (by rw [vl_nl hb, vl_nl (by omega)]; exact h) _ k (Nat.le_refl _) (by omega) (by rw [List.drop_eq_nil_of_le (by omega), List.drop_eq_nil_of_le (by omega)])
  · rw [if_neg (by omega), if_neg (by omega)]
    exact ⟨1, rfl, by decide⟩
theorem limb_p {l : List Int} (hl : Lim l) (n : Nat) : drawlotref10_limb.f l (n : Int) = some (rd l (n : Int)) := by
  have := hl.rd n
  unfold drawlotref10_limb.f
  by_cases c : (n : Int) < (l.length : Int)
  · rw [if_pos c, if_pos (by omega), u64w_id (by omega) (by omega)]
  · rw [if_neg c, rd_out (by omega)]
theorem rsub_l {a b : List Int} (ha : Lim a) (hb : Lim b) (hm : a.length < 1000000) (hab : b.length ≤ a.length) (h : vl b ≤ vl a) : ∀ (d k n : Nat) (z : List Int) (w : Int), n + d = a.length → d + a.length + 2 < k → z.length = n → Lim z → 0 ≤ w → w ≤ 1 →
    vl z = vl (a.take n) - vl (b.take n) + w * 4294967296 ^ n → drawlotref10_Sub.l0 k a b z w (n : Int) = some (nl (vl a - vl b), 0) := by
  intro d
  induction d with
  | zero =>
    intro k n z w hn hk hz hl hw0 hw1 hi
    obtain ⟨k, rfl⟩ : ∃ m, k = m + 1 := ⟨k - 1, by omega⟩
    simp only [drawlotref10_Sub.l0]
    rw [if_neg (by omega), rtrim_p z.length k z rfl hl (by omega) (by omega), bs]
    rw [List.take_of_length_le (by omega), List.take_of_length_le (by omega)] at hi
    have p := vl_lt hl
    have q := Bpos n
    rw [hz] at p
    have hw : w = 0 := by
      rcases Int.lt_or_eq_of_le hw1 with g | g
      · omega
      · rw [g] at hi; omega
    rw [hw] at hi
    rw [hi]; simp
  | succ d ih =>
    intro k n z w hn hk hz hl hw0 hw1 hi
    obtain ⟨k, rfl⟩ : ∃ m, k = m + 1 := ⟨k - 1, by omega⟩
    have ra := ha.rd n
    have rb := hb.rd n
    have fin : ∀ (y v : Int), 0 ≤ y → y < 4294967296 → 0 ≤ v → v ≤ 1 → y = rd a (n : Int) - rd b (n : Int) - w + 4294967296 * v → drawlotref10_Sub.l0 k a b (z ++ [y]) v ((n + 1 : Nat) : Int) = some (nl (vl a - vl b), 0) := by
      intro y v h0 h1 h2 h3 e
      refine ih k (n + 1) _ _ (by omega) (by omega) (by simp [hz]) (hl.append (Lim.cons ⟨h0, h1⟩ Lim.nil)) h2 h3 ?_
      rw [vl_append, vl_take_succ, vl_take_succ, Bsucc, hz, hi, e]
      simp only [vl]; grind
    simp only [drawlotref10_Sub.l0]
    rw [if_pos (by omega), limb_p ha, bs, limb_p hb, bs, u64w_id (x := rd b (n : Int) + w) (by omega) (by omega), nat_up (by omega)]
    by_cases c : rd b (n : Int) + w > rd a (n : Int)
    · rw [if_pos c, if_pos (by omega), u64w_id (x := rd a (n : Int) + 4294967296) (by omega) (by omega), u64w_id (by omega) (by omega)]
      exact fin _ 1 (by omega) (by omega) (by omega) (by omega) (by omega)
    · rw [if_neg c, if_pos (by omega), u64w_id (by omega) (by omega)]
      exact fin _ 0 (by omega) (by omega) (by omega) (by omega) (by omega)
theorem rsub_p {a b : Int} (hb : 0 ≤ b) (h : b ≤ a) (hm : (nl a).length ≤ 256) (k : Nat) (hk : 600 ≤ k) : drawlotref10_Sub.f k (nl a) (nl b) = some (nl (a - b), 0) := by
  have hl := nl_len_mono hb h
  unfold drawlotref10_Sub.f
  obtain ⟨k, rfl⟩ : ∃ m, k = m + 1 := ⟨k - 1, by omega⟩
  obtain ⟨c, e, hc⟩ := rcmp_p hb h hm k (by omega)
  rw [rright_p (Can_nl a) hm, bs, if_pos rfl, rright_p (Can_nl b) (by omega), bs]
  simp only [drawlotref10_Sub.j0]
  rw [if_neg (by simp), e, bs, if_neg hc]
  have := rsub_l (Lim_nl a) (Lim_nl b) (by omega) hl (by rw [vl_nl hb, vl_nl (by omega)]; exact h) (nl a).length k 0 [] 0 (by omega) (by omega) (by simp) Lim.nil (by omega) (by omega) (by simp [vl])
  rw [vl_nl hb, vl_nl (by omega)] at this
  exact this
theorem times_i {a b : List Int} (ha : Lim a) (hb : Lim b) (hm : a.length + b.length < 1000000) (i : Nat) (hi : i < a.length) : ∀ (d k n : Nat) (z : List Int) (w v : Int), n + d = b.length → z.length = a.length + b.length → Lim z → (∀ p : Nat, i + b.length ≤ p → rd z (p : Int) = 0) → 0 ≤ w → w < 4294967296 →
    vl z + w * 4294967296 ^ (i + n) = v + 4294967296 ^ i * (rd a (i : Int) * vl (b.take n)) → d + 2 < k →
    ∃ z' k', k ≤ k' + d + 2 ∧ drawlotref10_Times.l1 k a b z (i : Int) w (n : Int) = drawlotref10_Times.l0 k' a b z' ((i + 1 : Nat) : Int) ∧ z'.length = a.length + b.length ∧ Lim z' ∧ (∀ p : Nat, i + 1 + b.length ≤ p → rd z' (p : Int) = 0) ∧
      vl z' = v + 4294967296 ^ i * (rd a (i : Int) * vl b) := by
  intro d
  induction d with
  | zero =>
    intro k n z w v hn hz hl h0 hw0 hw1 hv hk
    obtain ⟨k, rfl⟩ : ∃ m, k = m + 1 + 1 := ⟨k - 2, by omega⟩
    have ra := ha.rd i
    rw [List.take_of_length_le (by omega), show i + n = i + b.length by omega] at hv
    generalize hK : k + 1 = K
    simp only [drawlotref10_Times.l1]
    rw [if_neg (by omega)]
    by_cases c : w > 0
    · have e0 : rd z ((i + n : Nat) : Int) = 0 := h0 _ (by omega)
      rw [if_pos c, w64_id (x := (i : Int) + (n : Int)) (by omega) (by omega), show (i : Int) + (n : Int) = ((i + n : Nat) : Int) by omega, if_pos (by omega), if_pos (by omega), if_pos (by omega), if_pos (by omega), limb_p hb, bs, rd_out (l := b) (by omega), Int.mul_zero, e0,
        u64w_id (x := 0) (by omega) (by omega), u64w_id (x := 0 + 0) (by omega) (by omega), u64w_id (x := 0 + 0 + w) (by omega) (by omega), Int.zero_add, Int.zero_add, Int.tmod_eq_emod_of_nonneg hw0, Int.tdiv_eq_ediv_of_nonneg hw0, Int.emod_eq_of_lt hw0 hw1, Int.emod_eq_of_lt hw0 hw1, Int.ediv_eq_zero_of_lt hw0 hw1, u64w_id (by omega) (by omega), nat_up (by omega), Int.toNat_natCast]
      rw [← hK]
      simp only [drawlotref10_Times.l1]
      rw [if_neg (by omega), if_neg (by omega), nat_up (by omega)]
      refine ⟨_, k, by omega, rfl, by rw [List.length_set]; exact hz, hl.set _ ⟨hw0, hw1⟩, fun p hp => by rw [rd_set_ne _ (by omega)]; exact h0 p (by omega), ?_⟩
      rw [vl_set (by omega), e0, show i + n = i + b.length by omega, ← hv]; grind
    · have hw : w = 0 := by omega
      rw [if_neg c, nat_up (by omega)]
      refine ⟨z, K, by omega, rfl, hz, hl, fun p hp => h0 p (by omega), ?_⟩
      rw [← hv, hw]; simp
  | succ d ih =>
    intro k n z w v hn hz hl h0 hw0 hw1 hv hk
    obtain ⟨k, rfl⟩ : ∃ m, k = m + 1 := ⟨k - 1, by omega⟩
    have ra := ha.rd i
    have rb := hb.rd n
    have rz := hl.rd (i + n)
    have hp : 0 ≤ rd a (i : Int) * rd b (n : Int) := Int.mul_nonneg ra.1 rb.1
    have hq : rd a (i : Int) * rd b (n : Int) ≤ 4294967295 * 4294967295 := Int.mul_le_mul (by omega) (by omega) rb.1 (by decide)
    simp only [drawlotref10_Times.l1]
    rw [if_pos (by omega), w64_id (x := (i : Int) + (n : Int)) (by omega) (by omega), show (i : Int) + (n : Int) = ((i + n : Nat) : Int) by omega, if_pos (by omega), if_pos (by omega), if_pos (by omega), if_pos (by omega), limb_p hb, bs, nat_up (by omega), Int.toNat_natCast,
      u64w_id (x := rd a (i : Int)) (by omega) (by omega), u64w_id (x := rd z ((i + n : Nat) : Int)) (by omega) (by omega)]
    have hpq : 0 ≤ rd z ((i + n : Nat) : Int) + rd a (i : Int) * rd b (n : Int) + w := by omega
    rw [u64w_id (x := rd a (i : Int) * rd b (n : Int)) hp (by omega), u64w_id (x := rd z ((i + n : Nat) : Int) + rd a (i : Int) * rd b (n : Int)) (by omega) (by omega), u64w_id (x := rd z ((i + n : Nat) : Int) + rd a (i : Int) * rd b (n : Int) + w) (by omega) (by omega),
      Int.tmod_eq_emod_of_nonneg hpq, Int.tdiv_eq_ediv_of_nonneg hpq]
    have e := Int.mul_ediv_add_emod (rd z ((i + n : Nat) : Int) + rd a (i : Int) * rd b (n : Int) + w) 4294967296
    have e0 : 0 ≤ (rd z ((i + n : Nat) : Int) + rd a (i : Int) * rd b (n : Int) + w) / 4294967296 := by omega
    have e1 : (rd z ((i + n : Nat) : Int) + rd a (i : Int) * rd b (n : Int) + w) / 4294967296 < 4294967296 := by omega
    have e2 : 0 ≤ (rd z ((i + n : Nat) : Int) + rd a (i : Int) * rd b (n : Int) + w) % 4294967296 ∧ (rd z ((i + n : Nat) : Int) + rd a (i : Int) * rd b (n : Int) + w) % 4294967296 < 4294967296 := by omega
    rw [u64w_id e0 (by omega), Int.emod_eq_of_lt e2.1 e2.2]
    obtain ⟨z', k', q⟩ := ih k (n + 1) (z.set (i + n) ((rd z ((i + n : Nat) : Int) + rd a (i : Int) * rd b (n : Int) + w) % 4294967296)) ((rd z ((i + n : Nat) : Int) + rd a (i : Int) * rd b (n : Int) + w) / 4294967296) v (by omega) (by rw [List.length_set]; exact hz) (hl.set _ e2) (fun p hp => by rw [rd_set_ne _ (by omega)]; exact h0 p hp) e0 e1 (by
      rw [vl_set (by omega), vl_take_succ, show i + (n + 1) = (i + n) + 1 by omega, Bsucc]
      generalize (rd z ((i + n : Nat) : Int) + rd a (i : Int) * rd b (n : Int) + w) / 4294967296 = q at *
      generalize (rd z ((i + n : Nat) : Int) + rd a (i : Int) * rd b (n : Int) + w) % 4294967296 = r at *
      have e : r = (rd z ((i + n : Nat) : Int) + rd a (i : Int) * rd b (n : Int) + w) - 4294967296 * q := by omega
      subst e
      rw [Int.pow_add] at hv ⊢
      generalize (4294967296 : Int) ^ i = Bi at *
      generalize (4294967296 : Int) ^ n = Bn at *
      grind) (by omega)
    exact ⟨z', k', by omega, q.2⟩
theorem times_l {a b : List Int} (ha : Lim a) (hb : Lim b) (hm : a.length + b.length < 1000000) : ∀ (d k n : Nat) (z : List Int), n + d = a.length → d * (b.length + 3) + a.length + b.length + 2 < k → z.length = a.length + b.length → Lim z → (∀ p : Nat, n + b.length ≤ p → rd z (p : Int) = 0) →
    vl z = vl (a.take n) * vl b → drawlotref10_Times.l0 k a b z (n : Int) = some (nl (vl a * vl b)) := by
  intro d
  induction d with
  | zero =>
    intro k n z hn hk hz hl h0 hv
    obtain ⟨k, rfl⟩ : ∃ m, k = m + 1 := ⟨k - 1, by omega⟩
    simp only [drawlotref10_Times.l0]
    rw [if_neg (by omega), rtrim_p z.length k z rfl hl (by omega) (by omega), bs, hv, List.take_of_length_le (by omega)]
  | succ d ih =>
    intro k n z hn hk hz hl h0 hv
    rw [Nat.succ_mul] at hk
    obtain ⟨k, rfl⟩ : ∃ m, k = m + 1 := ⟨k - 1, by omega⟩
    simp only [drawlotref10_Times.l0]
    rw [if_pos (by omega)]
    obtain ⟨z', k', hk', e, h1, h2, h3, h4⟩ := times_i ha hb hm n (by omega) b.length k 0 z 0 (vl z) (by omega) hz hl h0 (by omega) (by omega) (by simp [vl]) (by omega)
    rw [show ((0 : Nat) : Int) = 0 from rfl] at e
    rw [e]
    refine ih k' (n + 1) z' (by omega) (by omega) h1 h2 h3 ?_
    rw [h4, hv, vl_take_succ]; grind
theorem times_p {a b : Int} (ha : 0 ≤ a) (hb : 0 ≤ b) (hla : (nl a).length ≤ 512) (hlb : (nl b).length ≤ 512) (k : Nat) (hk : 300000 ≤ k) : drawlotref10_Times.f k (nl a) (nl b) = some (nl (a * b)) := by
  unfold drawlotref10_Times.f
  rw [w64_id (by omega) (by omega), if_pos (by omega), show (((nl a).length : Int) + ((nl b).length : Int)).toNat = (nl a).length + (nl b).length by omega, if_pos (by omega)]
  have hk : (nl a).length * ((nl b).length + 3) + (nl a).length + (nl b).length + 2 < k := by
    have := Nat.mul_le_mul hla (show (nl b).length + 3 ≤ 515 by omega); omega
  have := times_l (Lim_nl a) (Lim_nl b) (by omega) (nl a).length k 0 (List.replicate ((nl a).length + (nl b).length) 0) (by omega) hk (by simp) (Lim.zeros _) (fun p _ => rd_zeros _ p) (by rw [vl_zeros]; simp [vl])
  rw [vl_nl ha, vl_nl hb] at this
  exact this
theorem rsum_l {a b : List Int} (ha : Lim a) (hb : Lim b) {M : Nat} (hM : M < 1000000) (hla : a.length ≤ M) (hlb : b.length ≤ M) : ∀ (d k n : Nat) (z : List Int) (w : Int), n + d = M + 1 → 2 * d + M + 5 < k → z.length = n → Lim z → 0 ≤ w → w ≤ 1 → (n = M + 1 → w = 0) →
    vl z + w * 4294967296 ^ n = vl (a.take n) + vl (b.take n) → drawlotref10_Sum.l0 k a b z w (n : Int) = some (nl (vl a + vl b)) := by
  have stop : ∀ (k n : Nat) (z : List Int) (w : Int), M + 5 < k → n ≤ M + 1 → z.length = n → Lim z → ¬ (n : Int) < (a.length : Int) → ¬ (n : Int) < (b.length : Int) → w = 0 → vl z + w * 4294967296 ^ n = vl (a.take n) + vl (b.take n) →
      drawlotref10_Sum.l0 k a b z w (n : Int) = some (nl (vl a + vl b)) := by
    intro k n z w hk hn hz hl c1 c2 hw hi
    obtain ⟨k, rfl⟩ : ∃ m, k = m + 1 + 1 := ⟨k - 2, by omega⟩
    generalize hK : k + 1 = K
    simp only [drawlotref10_Sum.l0]
    rw [← hK, if_neg c1, if_neg c2]
    simp only [drawlotref10_Sum.j1]
    rw [if_neg (by simp; omega), rtrim_p z.length k z rfl hl (by omega) (by omega), bs]
    rw [List.take_of_length_le (by omega), List.take_of_length_le (by omega), hw] at hi
    rw [← hi]; simp
  intro d
  induction d with
  | zero =>
    intro k n z w hn hk hz hl hw0 hw1 hw hi
    exact stop k n z w (by omega) (by omega) hz hl (by omega) (by omega) (hw (by omega)) hi
  | succ d ih =>
    intro k n z w hn hk hz hl hw0 hw1 hw hi
    by_cases c : ¬ (n : Int) < (a.length : Int) ∧ ¬ (n : Int) < (b.length : Int) ∧ w = 0
    · exact stop k n z w (by omega) (by omega) hz hl c.1 c.2.1 c.2.2 hi
    · obtain ⟨k, rfl⟩ : ∃ m, k = m + 1 + 1 := ⟨k - 2, by omega⟩
      have ra := ha.rd n
      have rb := hb.rd n
      have go : drawlotref10_Sum.l0 (k + 1 + 1) a b z w (n : Int) = drawlotref10_Sum.j1 (k + 1) a b z w (n : Int) true := by
        generalize hK : k + 1 = K
        simp only [drawlotref10_Sum.l0]
        by_cases c1 : (n : Int) < (a.length : Int)
        · rw [if_pos c1]
        · rw [if_neg c1]
          by_cases c2 : (n : Int) < (b.length : Int)
          · rw [if_pos c2]
          · rw [if_neg c2]
            have : w > 0 := by
              rcases Int.lt_or_eq_of_le hw0 with g | g
              · exact g
              · exact absurd ⟨c1, c2, g.symm⟩ c
            rw [decide_eq_true this]
      rw [go]
      simp only [drawlotref10_Sum.j1]
      rw [if_pos trivial, limb_p ha, bs, limb_p hb, bs, if_pos (by omega), u64w_id (x := rd a (n : Int) + rd b (n : Int)) (by omega) (by omega), u64w_id (x := rd a (n : Int) + rd b (n : Int) + w) (by omega) (by omega), Int.tmod_eq_emod_of_nonneg (by omega), Int.tdiv_eq_ediv_of_nonneg (by omega), u64w_id (by omega) (by omega), nat_up (by omega), Int.emod_emod]
      refine ih k (n + 1) _ _ (by omega) (by omega) (by simp [hz]) (hl.append (Lim.cons (by omega) Lim.nil)) (by omega) (by omega) (fun h => ?_) ?_
      · rw [rd_out (l := a) (by omega), rd_out (l := b) (by omega)]; omega
      · have e := Int.mul_ediv_add_emod (rd a (n : Int) + rd b (n : Int) + w) 4294967296
        rw [vl_append, vl_take_succ, vl_take_succ, Bsucc, hz]
        simp only [vl]
        generalize (rd a (n : Int) + rd b (n : Int) + w) / 4294967296 = q at *
        generalize (rd a (n : Int) + rd b (n : Int) + w) % 4294967296 = r at *
        have e : r = (rd a (n : Int) + rd b (n : Int) + w) - 4294967296 * q := by omega
        subst e
        grind
theorem rsum_p {a b : Int} (ha : 0 ≤ a) (hb : 0 ≤ b) (hla : (nl a).length ≤ 1000) (hlb : (nl b).length ≤ 1000) (k : Nat) (hk : 4000 ≤ k) : drawlotref10_Sum.f k (nl a) (nl b) = some (nl (a + b)) := by
  have := rsum_l (Lim_nl a) (Lim_nl b) (M := 1000) (by omega) hla hlb 1001 k 0 [] 0 (by omega) (by omega) rfl Lim.nil (by omega) (by omega) (by omega) (by simp [vl])
  rw [vl_nl ha, vl_nl hb] at this
  exact this
theorem rsame_l (a : List Int) (hm : a.length < 4611686018427387904) : ∀ (d k n : Nat), n + d = a.length → d < k → drawlotref10_Same.l0 k a a (n : Int) = some true := by
  intro d
  induction d with
  | zero =>
    intro k n hn hk
    obtain ⟨k, rfl⟩ : ∃ m, k = m + 1 := ⟨k - 1, by omega⟩
    simp only [drawlotref10_Same.l0]
    rw [if_neg (by omega)]
  | succ d ih =>
    intro k n hn hk
    obtain ⟨k, rfl⟩ : ∃ m, k = m + 1 := ⟨k - 1, by omega⟩
    simp only [drawlotref10_Same.l0]
    rw [if_pos (by omega), if_pos (by omega), if_pos (by omega), if_pos trivial, nat_up (by omega)]
    exact ih k (n + 1) (by omega) (by omega)
theorem rsame_p (a : List Int) (k : Nat) (hk : a.length < k) (hm : a.length < 4611686018427387904) : drawlotref10_Same.f k a a = some true := by
  unfold drawlotref10_Same.f
  rw [if_pos rfl]
  exact rsame_l a hm a.length k 0 (by omega) hk
end Go.Proofs.YtgfkclgpphnjfaaDoor.Lm
