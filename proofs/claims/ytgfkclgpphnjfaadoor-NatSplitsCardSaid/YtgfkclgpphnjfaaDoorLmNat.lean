/- What the numbers' functions of the program answer, in plain Lean. No conditions. -/
import Derived.Test.YtgfkclgpphnjfaaDoorPNx1
import Derived.Test.YtgfkclgpphnjfaaDoorPNx2
import Derived.Test.YtgfkclgpphnjfaaDoorPNx5
import Derived.Test.YtgfkclgpphnjfaaDoorPNx3
import Derived.Test.YtgfkclgpphnjfaaDoorLmLimb
namespace Go.Proofs.YtgfkclgpphnjfaaDoor.Lm
open Go.RowKit Go.Proofs.YtgfkclgpphnjfaaDoorW.PrintWords Go.Proofs.YtgfkclgpphnjfaaDoor.PN

theorem nat_up {n : Nat} (h : n < 4611686018427387904) : wrap64 ((n : Int) + 1) = ((n + 1 : Nat) : Int) := by rw [w64_id (by omega) (by omega)]; omega
theorem nat_down {n : Nat} (h : n < 4611686018427387904) : wrap64 (((n + 1 : Nat) : Int) - 1) = (n : Int) := by rw [w64_id (by omega) (by omega)]; omega
theorem trim_p : ∀ (n k : Nat) (l : List Int), l.length = n → Lim l → n < k → n < 4611686018427387904 → nat_trim.f k l = some (nl (vl l)) := by
  intro n
  induction n with
  | zero =>
    intro k l hn hl hk hm
    obtain ⟨k, rfl⟩ : ∃ m, k = m + 1 := ⟨k - 1, by omega⟩
    simp only [nat_trim.f, nat_trim.l0]
    rw [if_neg (by omega), List.eq_nil_of_length_eq_zero hn]
    exact congrArg some nl_zero.symm
  | succ n ih =>
    intro k l hn hl hk hm
    obtain ⟨k, rfl⟩ : ∃ m, k = m + 1 := ⟨k - 1, by omega⟩
    simp only [nat_trim.f, nat_trim.l0, hn, nat_down (show n < 4611686018427387904 by omega)]
    rw [if_pos (by omega), if_pos (by omega), if_pos (by omega)]
    by_cases c : rd l (n : Int) = 0
    · rw [if_pos c, if_pos (by omega), Int.toNat_natCast]
      have := ih k (l.take n) (by rw [List.length_take]; omega) (hl.take n) (by omega) (by omega)
      have e := vl_take_succ l n
      rw [List.take_of_length_le (by omega), c] at e
      rw [show nat_trim.l0 k (l.take n) = nat_trim.f k (l.take n) from rfl, this, e]
      simp
    · rw [if_neg c, nl_vl ⟨hl, fun m hm => by have : m = n := by omega
                                              exact this ▸ c⟩]
theorem of_p {a : Int} (h0 : 0 ≤ a) (h1 : a < 18446744073709551616) (k : Nat) (hk : 3 ≤ k) : nat_Of.f k a = some (nl a) := by
  unfold nat_Of.f
  rw [trim_p 2 k _ rfl (Lim.cons (by omega) (Lim.cons (by omega) Lim.nil)) (by omega) (by omega), bs]
  simp only [vl]
  congr 2; omega
theorem shl_one {n : Int} (h0 : 0 ≤ n) (h1 : n < 32) : shl .u32 1 n = 2 ^ n.toNat := by
  have : ∀ m : Fin 32, shl .u32 1 ((m : Nat) : Int) = 2 ^ (m : Nat) := by decide
  have := this ⟨n.toNat, by omega⟩
  rwa [show ((n.toNat : Nat) : Int) = n by omega] at this
theorem two_pow_lt {n : Nat} (h : n < 32) : (1 : Int) ≤ 2 ^ n ∧ (2 : Int) ^ n < 4294967296 := by
  have : ∀ m : Fin 32, (1 : Int) ≤ 2 ^ (m : Nat) ∧ (2 : Int) ^ (m : Nat) < 4294967296 := by decide
  exact this ⟨n, h⟩
theorem two_split (n : Nat) : (2 : Int) ^ n = 4294967296 ^ (n / 32) * 2 ^ (n % 32) := by
  rw [show (4294967296 : Int) = 2 ^ 32 by decide, ← Int.pow_mul, ← Int.pow_add, Nat.div_add_mod]
theorem two_val {n : Nat} : nl (2 ^ n) = (List.replicate (n / 32 + 1) 0).set (n / 32) (2 ^ (n % 32)) := by
  have b := two_pow_lt (n := n % 32) (by omega)
  refine nl_of ⟨(Lim.zeros _).set _ ⟨by omega, b.2⟩, fun m hm => ?_⟩ ?_
  · have : m = n / 32 := by simpa using hm.symm
    subst this
    rw [rd_set_self (by simp)]; omega
  · rw [vl_set (by simp), vl_zeros, rd_zeros, two_split n]; simp
theorem two_p {a : Int} (h0 : 0 ≤ a) (h1 : a < 8192) : nat_Two.f a = some (nl (2 ^ a.toNat), 0) := by
  unfold nat_Two.f
  have e1 : Int.tdiv a 32 = ((a.toNat / 32 : Nat) : Int) := by rw [Int.tdiv_eq_ediv_of_nonneg h0]; omega
  have e2 : Int.tmod a 32 = ((a.toNat % 32 : Nat) : Int) := by rw [Int.tmod_eq_emod_of_nonneg h0]; omega
  rw [e1, e2, w64_id (x := ((a.toNat / 32 : Nat) : Int)) (by omega) (by omega), nat_up (by omega)]
  rw [if_neg (by omega), if_neg (by omega), if_pos (by omega), Int.toNat_natCast, if_pos (by omega), bs, if_pos (by omega), if_pos (by omega), List.length_replicate, if_pos (by omega), Int.toNat_natCast, shl_one (by omega) (by omega), Int.toNat_natCast, two_val]
theorem right_p {l : List Int} (h : Can l) (hl : l.length ≤ 256) (k : Nat) (hk : 257 ≤ k) : nat_Right.f k l = some true := by
  unfold nat_Right.f
  rw [if_pos (by omega), trim_p l.length k l rfl h.1 (by omega) (by omega), bs, nl_vl h, beq_self_eq_true]
theorem rights_l (k : Nat) (hk : 257 ≤ k) (ls : List (List Int)) (hm : ls.length < 1000000) (h : ∀ l ∈ ls, Can l ∧ l.length ≤ 256) : ∀ (d j n : Nat), n + d = ls.length → k + d < j →
    slices_IndexFunc_57_with_nat_rights_1.l0 j ls (ls.length : Int) (n : Int) = some (-1) := by
  intro d
  induction d with
  | zero =>
    intro j n hn hj
    obtain ⟨j, rfl⟩ : ∃ m, j = m + 1 := ⟨j - 1, by omega⟩
    simp only [slices_IndexFunc_57_with_nat_rights_1.l0]
    rw [if_neg (by omega)]
  | succ d ih =>
    intro j n hn hj
    obtain ⟨j, rfl⟩ : ∃ m, j = m + 1 := ⟨j - 1, by omega⟩
    simp only [slices_IndexFunc_57_with_nat_rights_1.l0]
    have hi : n < ls.length := by omega
    have e : rd_L1 ls (n : Int) = ls[n] := by
      unfold rd_L1
      rw [Int.toNat_natCast, List.getD_eq_getElem?_getD, List.getElem?_eq_getElem hi]; rfl
    have q := h ls[n] (List.getElem_mem hi)
    rw [if_pos (by omega), if_pos (by omega), if_pos (by omega), e]
    unfold nat_rights_1.f
    rw [right_p q.1 q.2 j (by omega), bs, bs, nat_up (by omega)]
    exact ih j (n + 1) (by omega) (by omega)
theorem rights_p {ls : List (List Int)} (hm : ls.length < 1000000) (h : ∀ l ∈ ls, Can l ∧ l.length ≤ 256) (k : Nat) (hk : ls.length + 300 ≤ k) : nat_rights.f k ls = some true := by
  unfold nat_rights.f slices_ContainsFunc_48_with_nat_rights_1.f slices_IndexFunc_57_with_nat_rights_1.f
  have := rights_l 257 (by omega) ls hm h ls.length k 0 (by omega) (by omega)
  rw [show ((0 : Nat) : Int) = 0 from rfl] at this
  rw [this, bs, bs]; rfl
theorem two_nl {a b : Int} (ha : (nl a).length ≤ 256) (hb : (nl b).length ≤ 256) : ∀ l ∈ [nl a, nl b], Can l ∧ l.length ≤ 256 := by
  intro l hl
  rcases List.mem_cons.1 hl with e | e
  · exact e ▸ ⟨Can_nl a, ha⟩
  · have e := List.mem_singleton.1 e
    exact e ▸ ⟨Can_nl b, hb⟩
/-- Of two lists that agree above, the one with the larger limb is the larger. -/
theorem vl_top {a b : List Int} (ha : Lim a) (hb : Lim b) (n : Nat) (h : a.drop (n + 1) = b.drop (n + 1)) (c : rd a (n : Int) < rd b (n : Int)) : vl a < vl b := by
  rw [vl_split a n, vl_split b n, vl_drop a n, vl_drop b n, h]
  have p := vl_lt (ha.take n)
  have q := vl_nonneg (hb.take n)
  have r := Bpos n
  have s : (4294967296 : Int) ^ (a.take n).length ≤ 4294967296 ^ n := Bmono (by rw [List.length_take]; omega)
  have t := Int.mul_le_mul_of_nonneg_left (show rd a (n : Int) + 1 + 4294967296 * vl (b.drop (n + 1)) ≤ rd b (n : Int) + 4294967296 * vl (b.drop (n + 1)) by omega) (Int.le_of_lt r)
  grind
theorem cmp_l {a b : List Int} (ha : Lim a) (hb : Lim b) (hab : a.length = b.length) (hm : a.length < 4611686018427387904) (h : vl b ≤ vl a) : ∀ (n k : Nat), n ≤ a.length → n < k → a.drop n = b.drop n →
    ∃ c, nat_Cmp.l0 k a b ((n : Int) - 1) = some c ∧ ¬ c < 0 := by
  intro n
  induction n with
  | zero =>
    intro k hn hk he
    obtain ⟨k, rfl⟩ : ∃ m, k = m + 1 := ⟨k - 1, by omega⟩
    simp only [nat_Cmp.l0]
    rw [if_neg (by omega)]
    exact ⟨0, rfl, by decide⟩
  | succ n ih =>
    intro k hn hk he
    obtain ⟨k, rfl⟩ : ∃ m, k = m + 1 := ⟨k - 1, by omega⟩
    rw [show ((n + 1 : Nat) : Int) - 1 = (n : Int) by omega]
    simp only [nat_Cmp.l0]
    rw [if_pos (by omega), if_pos (by omega), if_pos (by omega), if_pos (by omega)]
    by_cases c : rd a (n : Int) < rd b (n : Int)
    · have := vl_top ha hb n he c; omega
    · rw [if_neg c]
      by_cases d : rd a (n : Int) > rd b (n : Int)
      · rw [if_pos d]; exact ⟨1, rfl, by decide⟩
      · rw [if_neg d, w64_id (by omega) (by omega)]
        refine ih k (by omega) (by omega) ?_
        rw [drop_step (l := a) (by omega), drop_step (l := b) (by omega), he, show rd a (n : Int) = rd b (n : Int) by omega]
theorem cmp_p {a b : Int} (hb : 0 ≤ b) (h : b ≤ a) (hm : (nl a).length ≤ 256) (k : Nat) (hk : 302 ≤ k) : ∃ c, nat_Cmp.f k (nl a) (nl b) = some c ∧ ¬ c < 0 := by
  have hl := nl_len_mono hb h
  unfold nat_Cmp.f
  rw [rights_p (by simp) (two_nl hm (by omega)) k (by simpa using hk), bs, if_pos rfl]
  by_cases e : (nl a).length = (nl b).length
  · rw [if_pos (by omega), w64_id (by omega) (by omega)]
    exact cmp_l (Lim_nl a) (Lim_nl b) e (by omega) (by rw [vl_nl hb, vl_nl (by omega)]; exact h) _ k (Nat.le_refl _) (by omega) (by rw [List.drop_eq_nil_of_le (by omega), List.drop_eq_nil_of_le (by omega)])
  · rw [if_neg (by omega), w64_id (by omega) (by omega)]
    refine ⟨_, rfl, ?_⟩
    unfold mn mx
    split <;> split <;> omega
theorem sub_l {a b : List Int} (ha : Lim a) (hb : Lim b) (hm : a.length < 1000000) (hab : b.length ≤ a.length) (h : vl b ≤ vl a) : ∀ (d k n : Nat) (z : List Int) (w : Int), n + d = a.length → d + a.length + 2 < k → z.length = a.length → Lim z → (∀ p : Nat, n ≤ p → rd z (p : Int) = 0) → -1 ≤ w → w ≤ 0 →
    vl z + w * 4294967296 ^ n = vl (a.take n) - vl (b.take n) → nat_Sub.l0 k b z w a (a.length : Int) (n : Int) = some (nl (vl a - vl b), 0) := by
  intro d
  induction d with
  | zero =>
    intro k n z w hn hk hz hl h0 hw0 hw1 hi
    obtain ⟨k, rfl⟩ : ∃ m, k = m + 1 := ⟨k - 1, by omega⟩
    simp only [nat_Sub.l0]
    rw [if_neg (by omega), trim_p z.length k z rfl hl (by omega) (by omega), bs]
    rw [List.take_of_length_le (by omega), List.take_of_length_le (by omega)] at hi
    have p := vl_lt hl
    have q := Bpos n
    rw [show z.length = n by omega] at p
    have hw : w = 0 := by
      rcases Int.lt_or_eq_of_le hw1 with g | g
      · have : w = -1 := by omega
        rw [this] at hi; omega
      · exact g
    rw [hw] at hi
    rw [← hi]; simp
  | succ d ih =>
    intro k n z w hn hk hz hl h0 hw0 hw1 hi
    obtain ⟨k, rfl⟩ : ∃ m, k = m + 1 := ⟨k - 1, by omega⟩
    have ra := ha.rd n
    have rb := hb.rd n
    have step : nat_Sub.l0 (k + 1) b z w a (a.length : Int) (n : Int) = nat_Sub.l0 k b (z.set n ((rd a (n : Int) + w - rd b (n : Int)) % 4294967296)) ((rd a (n : Int) + w - rd b (n : Int)) / 4294967296) a (a.length : Int) ((n + 1 : Nat) : Int) := by
      simp only [nat_Sub.l0]
      rw [if_pos (by omega), if_pos (by omega), if_pos (by omega)]
      rw [w64_id (x := rd a (n : Int)) (by omega) (by omega), w64_id (x := rd a (n : Int) + w) (by omega) (by omega), nat_up (by omega), Int.toNat_natCast]
      by_cases c : (n : Int) < (b.length : Int)
      · rw [if_pos c, if_pos (by omega), w64_id (x := rd b (n : Int)) (by omega) (by omega), w64_id (x := rd a (n : Int) + w - rd b (n : Int)) (by omega) (by omega)]
      · rw [if_neg c, if_pos (by omega), rd_out (l := b) (by omega), Int.sub_zero]
    rw [step]
    refine ih k (n + 1) _ _ (by omega) (by omega) (by rw [List.length_set]; exact hz) (hl.set n (by omega)) (fun p hp => by rw [rd_set_ne _ (by omega)]; exact h0 p (by omega)) (by omega) (by omega) ?_
    rw [vl_set (by omega), h0 n (Nat.le_refl n), vl_take_succ, vl_take_succ, Bsucc]
    have e := Int.mul_ediv_add_emod (rd a (n : Int) + w - rd b (n : Int)) 4294967296
    generalize (rd a (n : Int) + w - rd b (n : Int)) / 4294967296 = q at *
    generalize (rd a (n : Int) + w - rd b (n : Int)) % 4294967296 = r at *
    have e : r = rd a (n : Int) + w - rd b (n : Int) - 4294967296 * q := by omega
    subst e
    grind
theorem sub_p {a b : Int} (hb : 0 ≤ b) (h : b ≤ a) (hm : (nl a).length ≤ 256) (k : Nat) (hk : 600 ≤ k) : nat_Sub.f k (nl a) (nl b) = some (nl (a - b), 0) := by
  have hl := nl_len_mono hb h
  unfold nat_Sub.f
  obtain ⟨c, e, hc⟩ := cmp_p hb h hm k (by omega)
  rw [rights_p (by simp) (two_nl hm (by omega)) k (by simp; omega), bs, if_pos rfl, e, bs, if_neg hc, if_pos (by omega), Int.toNat_natCast, if_pos (by omega)]
  have := sub_l (Lim_nl a) (Lim_nl b) (by omega) hl (by rw [vl_nl hb, vl_nl (by omega)]; exact h) (nl a).length k 0 (List.replicate (nl a).length 0) 0 (by omega) (by omega) (by simp) (Lim.zeros _) (fun p _ => rd_zeros _ p) (by omega) (by omega) (by rw [vl_zeros]; simp [vl])
  rw [vl_nl hb, vl_nl (by omega)] at this
  exact this
theorem prod_i {a b : List Int} (ha : Lim a) (hb : Lim b) (hm : a.length + b.length < 1000000) (i : Nat) (hi : i < a.length) : ∀ (d k n : Nat) (z : List Int) (w v : Int), n + d = b.length → z.length = a.length + b.length → Lim z → (∀ p : Nat, i + b.length ≤ p → rd z (p : Int) = 0) → 0 ≤ w → w < 4294967296 →
    vl z + w * 4294967296 ^ (i + n) = v + 4294967296 ^ i * (rd a (i : Int) * vl (b.take n)) →
    ∃ z', nat_product.l1 (k + d + 1) b z (i : Int) (rd a (i : Int)) w a (a.length : Int) (i : Int) b (b.length : Int) (n : Int) = nat_product.l0 k b z' a (a.length : Int) ((i + 1 : Nat) : Int) ∧ z'.length = a.length + b.length ∧ Lim z' ∧ (∀ p : Nat, i + 1 + b.length ≤ p → rd z' (p : Int) = 0) ∧
      vl z' = v + 4294967296 ^ i * (rd a (i : Int) * vl b) := by
  intro d
  induction d with
  | zero =>
    intro k n z w v hn hz hl h0 hw0 hw1 hv
    simp only [nat_product.l1]
    rw [if_neg (by omega), w64_id (x := (i : Int) + (b.length : Int)) (by omega) (by omega), if_pos (by omega), if_pos (by omega), nat_up (by omega), show ((i : Int) + (b.length : Int)).toNat = i + b.length by omega, Int.emod_eq_of_lt hw0 hw1]
    refine ⟨_, rfl, by rw [List.length_set]; exact hz, hl.set _ ⟨hw0, hw1⟩, fun p hp => by rw [rd_set_ne _ (by omega)]; exact h0 p (by omega), ?_⟩
    rw [vl_set (by omega), h0 _ (Nat.le_refl _)]
    rw [List.take_of_length_le (by omega), show i + n = i + b.length by omega] at hv
    rw [← hv]; grind
  | succ d ih =>
    intro k n z w v hn hz hl h0 hw0 hw1 hv
    have ra := ha.rd i
    have rb := hb.rd n
    have rz := hl.rd (i + n)
    have hp : 0 ≤ rd a (i : Int) * rd b (n : Int) := Int.mul_nonneg ra.1 rb.1
    have hq : rd a (i : Int) * rd b (n : Int) ≤ 4294967295 * 4294967295 := Int.mul_le_mul (by omega) (by omega) rb.1 (by decide)
    generalize hK : k + (d + 1) = K
    simp only [nat_product.l1]
    rw [if_pos (by omega), if_pos (by omega), if_pos (by omega), w64_id (x := (i : Int) + (n : Int)) (by omega) (by omega), show (i : Int) + (n : Int) = ((i + n : Nat) : Int) by omega, if_pos (by omega), if_pos (by omega), nat_up (by omega), Int.toNat_natCast,
      u64w_id (x := rd a (i : Int)) (by omega) (by omega), u64w_id (x := rd b (n : Int)) (by omega) (by omega), u64w_id (x := rd z ((i + n : Nat) : Int)) (by omega) (by omega)]
    have hpq : 0 ≤ rd a (i : Int) * rd b (n : Int) + rd z ((i + n : Nat) : Int) + w := by omega
    rw [u64w_id (x := rd a (i : Int) * rd b (n : Int)) hp (by omega), u64w_id (x := rd a (i : Int) * rd b (n : Int) + rd z ((i + n : Nat) : Int)) (by omega) (by omega), u64w_id (x := w + (rd a (i : Int) * rd b (n : Int) + rd z ((i + n : Nat) : Int))) (by omega) (by omega)]
    have e := Int.mul_ediv_add_emod (w + (rd a (i : Int) * rd b (n : Int) + rd z ((i + n : Nat) : Int))) 4294967296
    have e0 : 0 ≤ (w + (rd a (i : Int) * rd b (n : Int) + rd z ((i + n : Nat) : Int))) / 4294967296 := by omega
    have e1 : (w + (rd a (i : Int) * rd b (n : Int) + rd z ((i + n : Nat) : Int))) / 4294967296 < 4294967296 := by omega
    have e2 : 0 ≤ (w + (rd a (i : Int) * rd b (n : Int) + rd z ((i + n : Nat) : Int))) % 4294967296 ∧ (w + (rd a (i : Int) * rd b (n : Int) + rd z ((i + n : Nat) : Int))) % 4294967296 < 4294967296 := by omega
    rw [← hK]
    refine ih k (n + 1) _ _ v (by omega) (by rw [List.length_set]; exact hz) (hl.set _ e2) (fun p hp => by rw [rd_set_ne _ (by omega)]; exact h0 p hp) e0 e1 ?_
    rw [vl_set (by omega), vl_take_succ, show i + (n + 1) = (i + n) + 1 by omega, Bsucc]
    generalize (w + (rd a (i : Int) * rd b (n : Int) + rd z ((i + n : Nat) : Int))) / 4294967296 = q at *
    generalize (w + (rd a (i : Int) * rd b (n : Int) + rd z ((i + n : Nat) : Int))) % 4294967296 = r at *
    have e : r = w + (rd a (i : Int) * rd b (n : Int) + rd z ((i + n : Nat) : Int)) - 4294967296 * q := by omega
    subst e
    rw [Int.pow_add] at hv ⊢
    generalize (4294967296 : Int) ^ i = Bi at *
    generalize (4294967296 : Int) ^ n = Bn at *
    grind
theorem prod_l {a b : List Int} (ha : Lim a) (hb : Lim b) (hm : a.length + b.length < 1000000) : ∀ (d k n : Nat) (z : List Int), n + d = a.length → d * (b.length + 2) + a.length + b.length + 2 < k → z.length = a.length + b.length → Lim z → (∀ p : Nat, n + b.length ≤ p → rd z (p : Int) = 0) →
    vl z = vl (a.take n) * vl b → nat_product.l0 k b z a (a.length : Int) (n : Int) = some (nl (vl a * vl b)) := by
  intro d
  induction d with
  | zero =>
    intro k n z hn hk hz hl h0 hv
    obtain ⟨k, rfl⟩ : ∃ m, k = m + 1 := ⟨k - 1, by omega⟩
    simp only [nat_product.l0]
    rw [if_neg (by omega), trim_p z.length k z rfl hl (by omega) (by omega), bs, hv, List.take_of_length_le (by omega)]
  | succ d ih =>
    intro k n z hn hk hz hl h0 hv
    rw [Nat.succ_mul] at hk
    obtain ⟨k, rfl⟩ : ∃ m, k = m + b.length + 1 + 1 := ⟨k - (b.length + 2), by omega⟩
    simp only [nat_product.l0]
    rw [if_pos (by omega), if_pos (by omega), if_pos (by omega)]
    obtain ⟨z', e, h1, h2, h3, h4⟩ := prod_i ha hb hm n (by omega) b.length k 0 z 0 (vl z) (by omega) hz hl h0 (by omega) (by omega) (by simp [vl])
    rw [show ((0 : Nat) : Int) = 0 from rfl] at e
    rw [e]
    refine ih k (n + 1) z' (by omega) (by omega) h1 h2 h3 ?_
    rw [h4, hv, vl_take_succ]; grind
theorem prod_p {a b : Int} (ha : 0 ≤ a) (hb : 0 ≤ b) (hla : (nl a).length ≤ 512) (hlb : (nl b).length ≤ 512) (k : Nat) (hk : 300000 ≤ k) : nat_product.f k (nl a) (nl b) = some (nl (a * b)) := by
  unfold nat_product.f
  rw [w64_id (by omega) (by omega), if_pos (by omega), show (((nl a).length : Int) + ((nl b).length : Int)).toNat = (nl a).length + (nl b).length by omega, if_pos (by omega)]
  have hk : (nl a).length * ((nl b).length + 2) + (nl a).length + (nl b).length + 2 < k := by
    have := Nat.mul_le_mul hla (show (nl b).length + 2 ≤ 514 by omega); omega
  have := prod_l (Lim_nl a) (Lim_nl b) (by omega) (nl a).length k 0 (List.replicate ((nl a).length + (nl b).length) 0) (by omega) hk (by simp) (Lim.zeros _) (fun p _ => rd_zeros _ p) (by rw [vl_zeros]; simp [vl])
  rw [vl_nl ha, vl_nl hb] at this
  exact this
end Go.Proofs.YtgfkclgpphnjfaaDoor.Lm
