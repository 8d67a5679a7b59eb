/- The division of the reference, the powers, and the decimal text of a number, in plain Lean. No conditions. -/
import Derived.Test.YtgfkclgpphnjfaaDoorPNx9
import Derived.Test.YtgfkclgpphnjfaaDoorPNx5
import Derived.Test.YtgfkclgpphnjfaaDoorPNx6
import Derived.Test.YtgfkclgpphnjfaaDoorPNx10
import Derived.Test.YtgfkclgpphnjfaaDoorLmBig
namespace Go.Proofs.YtgfkclgpphnjfaaDoor.Lm
open Go.RowKit Go.Proofs.YtgfkclgpphnjfaaDoorW.PrintWords Go.Proofs.YtgfkclgpphnjfaaDoor.PN

theorem rdiv_i {a : List Int} (ha : Lim a) (hm : a.length < 1000000) {D : Int} (hD0 : 0 < D) (hD1 : D < 9223372036854775808) (i : Nat) (hi : i < a.length) (H Q : Int) : ∀ (e k c : Nat) (z : List Int) (r q b : Int), c + e = 32 → b = (if e = 0 then 0 else 2 ^ (e - 1)) → z.length = a.length → Lim z → rd z (i : Int) = q * 2 ^ e → 0 ≤ q → q < 2 ^ c → 0 ≤ r → r < D →
    H * 2 ^ c + rd a (i : Int) / 2 ^ e = (Q * 2 ^ c + q) * D + r →
    ∃ z' r', drawlotref10_Div.l1 (k + e + 1) a D z r (i : Int) b = drawlotref10_Div.l0 k a D z' r' ((i : Int) - 1) ∧ z'.length = a.length ∧ Lim z' ∧ z'.drop (i + 1) = z.drop (i + 1) ∧ (∀ p : Nat, p < i → rd z' (p : Int) = rd z (p : Int)) ∧ 0 ≤ r' ∧ r' < D ∧
      H * 4294967296 + rd a (i : Int) = (Q * 4294967296 + rd z' (i : Int)) * D + r' := by
  intro e
  induction e with
  | zero =>
    intro k c z r q b hc hb hz hl hq hq0 hq1 hr0 hr1 hv
    rw [if_pos rfl] at hb
    subst hb
    simp only [drawlotref10_Div.l1]
    have : c = 32 := by omega
    subst this
    rw [if_neg (by omega), w64_id (by omega) (by omega)]
    refine ⟨z, r, rfl, hz, hl, rfl, fun _ _ => rfl, hr0, hr1, ?_⟩
    rw [hq]
    simpa using hv
  | succ e ih =>
    intro k c z r q b hc hb hz hl hq hq0 hq1 hr0 hr1 hv
    rw [if_neg (by omega), Nat.add_sub_cancel] at hb
    have rx := ha.rd i
    have rz := hl.rd i
    have p := two_pow_lt (show e < 32 by omega)
    have b0 : 0 ≤ b := by omega
    generalize hK : k + (e + 1) = K
    simp only [drawlotref10_Div.l1]
    have d0 : 0 ≤ rd a (i : Int) / b := Int.ediv_nonneg rx.1 b0
    have d1 : rd a (i : Int) / b ≤ rd a (i : Int) := Int.ediv_le_self _ rx.1
    rw [if_pos (by omega), if_pos (by omega), if_pos (by omega), if_neg (by omega), Int.tdiv_eq_ediv_of_nonneg rx.1, Int.emod_eq_of_lt (a := rd a (i : Int) / b) d0 (by omega), u64w_id (x := 2 * r) (by omega) (by omega), u64w_id (x := 2 * r + rd a (i : Int) / b % 2) (by omega) (by omega), Int.tdiv_eq_ediv_of_nonneg b0,
      Int.emod_eq_of_lt (a := b / 2) (by omega) (by omega)]
    subst hb
    have ht : rd a (i : Int) / 2 ^ e % 2 = 0 ∨ rd a (i : Int) / 2 ^ e % 2 = 1 := by omega
    have hx : rd a (i : Int) / 2 ^ (e + 1) = rd a (i : Int) / 2 ^ e / 2 := by rw [Int.pow_succ, Int.ediv_ediv_of_nonneg (by omega)]
    have hq' : (rd z (i : Int)) = (2 * q) * 2 ^ e := by rw [hq, Int.pow_succ]; grind
    have key : H * 2 ^ (c + 1) + rd a (i : Int) / 2 ^ e = (Q * 2 ^ (c + 1) + 2 * q) * D + (2 * r + rd a (i : Int) / 2 ^ e % 2) := by
      rw [hx] at hv
      have e2 := Int.mul_ediv_add_emod (rd a (i : Int) / 2 ^ e) 2
      generalize rd a (i : Int) / 2 ^ e / 2 = y at *
      generalize rd a (i : Int) / 2 ^ e % 2 = t at *
      rw [← e2, Int.pow_succ]
      grind
    have hps : (2 : Int) ^ (c + 1) = 2 * 2 ^ c := by rw [Int.pow_succ, Int.mul_comm]
    have h32 : (2 : Int) ^ (c + 1) * 2 ^ e = 4294967296 := by rw [← Int.pow_add, show c + 1 + e = 32 by omega]; rfl
    have hbb : (2 : Int) ^ e / 2 = if e = 0 then 0 else 2 ^ (e - 1) := by
      by_cases z : e = 0
      · rw [if_pos z, z]; rfl
      · obtain ⟨f, rfl⟩ : ∃ f, e = f + 1 := ⟨e - 1, by omega⟩
        rw [if_neg z, Nat.add_sub_cancel, Int.pow_succ]
        omega
    by_cases g : 2 * r + rd a (i : Int) / 2 ^ e % 2 ≥ D
    · rw [if_pos g, if_pos (by omega), Int.toNat_natCast]
      have hb : (2 * q + 1) * 2 ^ e < 4294967296 := by
        have := Int.mul_le_mul_of_nonneg_right (show 2 * q + 1 + 1 ≤ 2 ^ (c + 1) by omega) (show (0 : Int) ≤ 2 ^ e by omega)
        rw [h32, Int.add_mul] at this
        omega
      have hb0 : 0 ≤ (2 * q + 1) * 2 ^ e := Int.mul_nonneg (by omega) (by omega)
      have ho : (rd z (i : Int) + 2 ^ e) % 4294967296 = (2 * q + 1) * 2 ^ e := by
        have : rd z (i : Int) + 2 ^ e = (2 * q + 1) * 2 ^ e := by rw [hq']; grind
        rw [this, Int.emod_eq_of_lt hb0 hb]
      rw [ho, u64w_id (x := 2 * r + rd a (i : Int) / 2 ^ e % 2 - D) (by omega) (by omega), ← hK]
      obtain ⟨z', r', q1, q2, q3, q4, q5, q6⟩ := ih k (c + 1) (z.set i ((2 * q + 1) * 2 ^ e)) (2 * r + rd a (i : Int) / 2 ^ e % 2 - D) (2 * q + 1) (2 ^ e / 2) (by omega) hbb (by rw [List.length_set]; exact hz) (hl.set _ ⟨hb0, hb⟩) (rd_set_self (by omega) _) (by omega) (by omega) (by omega) (by omega) (by rw [key]; grind)
      refine ⟨z', r', q1, q2, q3, ?_, fun p hp => ?_, q6⟩
      · rw [q4, List.drop_set_of_lt (by omega)]
      · rw [q5 p hp, rd_set_ne _ (by omega)]
    · rw [if_neg g, ← hK]
      exact ih k (c + 1) z (2 * r + rd a (i : Int) / 2 ^ e % 2) (2 * q) (2 ^ e / 2) (by omega) hbb hz hl hq' (by omega) (by omega) (by omega) (by omega) key
theorem rdiv_l {a : List Int} (ha : Lim a) (hm : a.length < 1000000) {D : Int} (hD0 : 0 < D) (hD1 : D < 9223372036854775808) : ∀ (n k : Nat) (z : List Int) (r : Int), n ≤ a.length → n * 34 + a.length + 3 < k → z.length = a.length → Lim z → (∀ p : Nat, p < n → rd z (p : Int) = 0) → 0 ≤ r → r < D →
    vl (a.drop n) = vl (z.drop n) * D + r → drawlotref10_Div.l0 k a D z r ((n : Int) - 1) = some (nl (vl a / D), vl a % D, 0) := by
  intro n
  induction n with
  | zero =>
    intro k z r hn hk hz hl h0 hr0 hr1 hv
    obtain ⟨k, rfl⟩ : ∃ m, k = m + 1 := ⟨k - 1, by omega⟩
    simp only [drawlotref10_Div.l0]
    rw [if_neg (by omega), rtrim_p z.length k z rfl hl (by omega) (by omega), bs]
    rw [List.drop_zero, List.drop_zero] at hv
    have u := (Int.ediv_emod_unique hD0 (a := vl a) (q := vl z) (r := r)).2 ⟨by rw [hv, Int.mul_comm]; omega, hr0, hr1⟩
    rw [u.1, u.2]
  | succ n ih =>
    intro k z r hn hk hz hl h0 hr0 hr1 hv
    rw [Nat.succ_mul] at hk
    obtain ⟨k, rfl⟩ : ∃ m, k = m + 32 + 1 + 1 := ⟨k - 34, by omega⟩
    rw [show ((n + 1 : Nat) : Int) - 1 = (n : Int) by omega]
    generalize hK : k + 32 + 1 = K
    simp only [drawlotref10_Div.l0]
    rw [if_pos (by omega), ← hK]
    have rx := ha.rd n
    obtain ⟨z', r', q1, q2, q3, q4, q5, q6, q7, q8⟩ := rdiv_i ha hm hD0 hD1 n (by omega) (vl (a.drop (n + 1))) (vl (z.drop (n + 1))) 32 k 0 z r 0 2147483648 (by omega) (by decide) hz hl (by rw [h0 n (by omega)]; simp) (by omega) (by decide) hr0 hr1 (by
      rw [show rd a (n : Int) / 2 ^ 32 = 0 from Int.ediv_eq_zero_of_lt rx.1 rx.2]
      simpa using hv)
    rw [q1]
    refine ih k z' r' (by omega) (by omega) q2 q3 (fun p hp => by rw [q5 p hp, h0 p (by omega)]) q6 q7 ?_
    rw [vl_drop a n, vl_drop z' n, q4]
    grind
theorem rdiv_b {a : List Int} (ha : Lim a) {D : Int} (h0 : 0 ≤ D) (k : Nat) (hk : 12000 ≤ k) : drawlotref10_Div.f k a D = some (divF a D) := by
  unfold divF drawlotref10_Div.f
  obtain ⟨k, rfl⟩ : ∃ m, k = m + 1 := ⟨k - 1, by omega⟩
  rw [rright_b ha, bs]
  simp only [drawlotref10_Div.j0]
  by_cases d : rb a = true
  · rw [d, if_pos rfl]
    by_cases e : D < 1
    · rw [if_pos e, if_pos trivial, if_neg (by omega)]
    · rw [if_neg e]
      by_cases f : D ≥ 9223372036854775808
      · rw [if_pos (decide_eq_true f), if_neg (by omega)]
      · have m := can_len d
        rw [if_neg (by simp; omega), if_pos (by omega), Int.toNat_natCast, if_pos (by omega), w64_id (by omega) (by omega), if_pos ⟨rfl, by omega, by omega⟩]
        exact rdiv_l ha (by omega) (by omega) (by omega) a.length k (List.replicate a.length 0) 0 (Nat.le_refl _) (by omega) (by simp) (Lim.zeros _) (fun p _ => rd_zeros _ p) (by omega) (by omega) (by rw [List.drop_eq_nil_of_le (Nat.le_refl _), List.drop_eq_nil_of_le (by simp)]; simp [vl])
  · rw [if_neg d, if_pos trivial, if_neg (fun h => d h.1)]
def powF (a : List Int) (m : Int) : List Int × Int := if rb a = true ∧ 0 ≤ m ∧ m ≤ 64 then mulF (List.replicate m.toNat a) else ([], 1)
theorem Lims.rep {a : List Int} (h : Lim a) (n : Nat) : Lims (List.replicate n a) := fun l hl => by rw [List.eq_of_mem_replicate hl]; exact h
theorem pow_b {a : List Int} (ha : Lim a) (m : Int) (k : Nat) (hk : 302000 ≤ k) : nat_Pow.f k a m = some (powF a m) := by
  unfold nat_Pow.f powF
  rw [right_b ha k (by omega), bs]
  by_cases d : rb a = true
  · rw [if_pos d]
    by_cases e : 0 ≤ m ∧ m ≤ 64
    · rw [if_pos e, if_pos ⟨d, e⟩]
      exact (mul_b (Lims.rep ha _) (by rw [List.length_replicate]; omega) k hk).1
    · rw [if_neg e, if_neg (fun h => e h.2)]
  · rw [if_neg d, if_neg (fun h => d h.1)]
theorem rpow_lb (a : List Int) (ha : Lim a) {m : Nat} (hm : m ≤ 64) : ∀ (d k n : Nat), n + d = m → 302000 + d < k → drawlotref10_Pow.l0 k a (m : Int) (List.replicate n a) (n : Int) = some (mulF (List.replicate m a)) := by
  intro d
  induction d with
  | zero =>
    intro k n hn hk
    obtain ⟨k, rfl⟩ : ∃ m, k = m + 1 := ⟨k - 1, by omega⟩
    simp only [drawlotref10_Pow.l0]
    rw [if_neg (by omega), (mul_b (Lims.rep ha n) (by rw [List.length_replicate]; omega) k (by omega)).2, bs, show n = m by omega]
  | succ d ih =>
    intro k n hn hk
    obtain ⟨k, rfl⟩ : ∃ m, k = m + 1 := ⟨k - 1, by omega⟩
    simp only [drawlotref10_Pow.l0]
    rw [if_pos (by omega), if_pos (by rw [List.length_replicate]; omega), nat_up (by omega), ← List.replicate_succ']
    exact ih k (n + 1) (by omega) (by omega)
theorem rpow_b {a : List Int} (ha : Lim a) (m : Int) (k : Nat) (hk : 303000 ≤ k) : drawlotref10_Pow.f k a m = some (powF a m) := by
  unfold drawlotref10_Pow.f powF
  obtain ⟨k, rfl⟩ : ∃ m, k = m + 1 := ⟨k - 1, by omega⟩
  rw [rright_b ha, bs]
  simp only [drawlotref10_Pow.j0]
  by_cases d : rb a = true
  · rw [if_pos d]
    by_cases e : m < 0
    · rw [if_pos e, if_pos trivial, if_neg (by omega)]
    · rw [if_neg e]
      by_cases f : m > 64
      · rw [if_pos (decide_eq_true f), if_neg (by omega)]
      · rw [if_neg (by simp; omega), if_pos ⟨d, by omega, by omega⟩]
        obtain ⟨M, rfl⟩ := Int.eq_ofNat_of_zero_le (show 0 ≤ m by omega)
        exact rpow_lb a ha (by omega) M k 0 (by omega) (by omega)
  · rw [if_neg d, if_pos trivial, if_neg (fun h => d h.1)]
def twoF (m : Int) : List Int × Int := if 0 ≤ m ∧ m < 8192 then (nl (2 ^ m.toNat), 0) else ([], 1)
theorem two_b (m : Int) : nat_Two.f m = some (twoF m) := by
  unfold twoF
  by_cases c : 0 ≤ m ∧ m < 8192
  · rw [if_pos c]; exact two_p c.1 c.2
  · rw [if_neg c]
    unfold nat_Two.f
    by_cases d : m < 0
    · rw [if_pos d]
    · rw [if_neg d, if_pos (by omega)]
theorem rtwo_b (m : Int) (k : Nat) (hk : 41 ≤ k) : drawlotref10_Two.f k m = some (twoF m) := by
  unfold twoF
  by_cases c : 0 ≤ m ∧ m < 8192
  · rw [if_pos c]; exact rtwo_p c.1 c.2 k (by omega)
  · rw [if_neg c]
    unfold drawlotref10_Two.f
    obtain ⟨k, rfl⟩ : ∃ m, k = m + 1 := ⟨k - 1, by omega⟩
    simp only [drawlotref10_Two.j0]
    by_cases d : m < 0
    · rw [if_pos d, if_pos trivial]
    · rw [if_neg d, if_pos (decide_eq_true (by omega))]

/-! ### The decimal text -/
theorem dec_small {u : Nat} (h : u < 10) : Lib.decDigits u = [UInt8.ofNat (48 + u)] := by rw [Lib.decDigits, dif_pos h]
theorem dec_big {u : Nat} (h : ¬ u < 10) : Lib.decDigits u = Lib.decDigits (u / 10) ++ [UInt8.ofNat (48 + u % 10)] := by rw [Lib.decDigits, dif_neg h]
/-- The lowest n digits, zeros ahead. -/
def low : Nat → Nat → List UInt8
  | 0, _ => []
  | n + 1, u => low n (u / 10) ++ [UInt8.ofNat (48 + u % 10)]
theorem low_split : ∀ (n u q : Nat), 0 < q → Lib.decDigits (q * 10 ^ n + u % 10 ^ n) = Lib.decDigits q ++ low n (u % 10 ^ n) := by
  intro n
  induction n with
  | zero => intro u q _; simp [low, Nat.mod_one]
  | succ n ih =>
    intro u q hq
    have p : 1 ≤ 10 ^ n := Nat.one_le_pow _ _ (by decide)
    have hp : 10 ^ (n + 1) = 10 * 10 ^ n := by rw [Nat.pow_succ, Nat.mul_comm]
    have e1 : (q * 10 ^ (n + 1) + u % 10 ^ (n + 1)) / 10 = q * 10 ^ n + (u / 10) % 10 ^ n := by
      rw [hp, show q * (10 * 10 ^ n) = 10 * (q * 10 ^ n) by rw [Nat.mul_left_comm], Nat.mul_add_div (by decide), Nat.mod_mul_right_div_self]
    have e2 : (q * 10 ^ (n + 1) + u % 10 ^ (n + 1)) % 10 = u % 10 ^ (n + 1) % 10 := by
      rw [hp, show q * (10 * 10 ^ n) = 10 * (q * 10 ^ n) by rw [Nat.mul_left_comm], Nat.mul_add_mod]
    have big : ¬ q * 10 ^ (n + 1) + u % 10 ^ (n + 1) < 10 := by
      have : 1 * 10 ≤ q * 10 ^ (n + 1) := Nat.mul_le_mul hq (by rw [hp]; omega)
      omega
    rw [dec_big big, e1, e2, ih (u / 10) q hq]
    simp only [low]
    rw [hp, Nat.mod_mul_right_div_self, List.append_assoc]
theorem low_zero : ∀ n, low n 0 = List.replicate n 48 := by
  intro n
  induction n with
  | zero => rfl
  | succ n ih => simp only [low, Nat.zero_div, ih, List.replicate_succ']; rfl
theorem nDig_le : ∀ (n u : Nat), 0 < n → u < 10 ^ n → Lib.nDigits u ≤ n := by
  intro n
  induction n with
  | zero => intro u h; omega
  | succ n ih =>
    intro u _ hu
    by_cases c : u < 10
    · rw [Lib.nDigits_small c]; omega
    · rw [Lib.nDigits_big c]
      rw [Nat.pow_succ] at hu
      have : 0 < n := by
        rcases Nat.eq_zero_or_pos n with z | z
        · subst z; simp at hu; omega
        · exact z
      have := ih (u / 10) this (by omega)
      omega
theorem low_pad : ∀ (n u : Nat), 0 < n → u < 10 ^ n → low n u = List.replicate (n - (Lib.decDigits u).length) 48 ++ Lib.decDigits u := by
  intro n
  induction n with
  | zero => intro u h; omega
  | succ n ih =>
    intro u _ hu
    simp only [low]
    by_cases c : u < 10
    · rw [Nat.div_eq_of_lt c, low_zero, Nat.mod_eq_of_lt c, dec_small c]; simp
    · rw [Nat.pow_succ] at hu
      have hn : 0 < n := by
        rcases Nat.eq_zero_or_pos n with z | z
        · subst z; simp at hu; omega
        · exact z
      rw [ih (u / 10) hn (by omega), dec_big c, List.append_assoc, List.length_append, List.length_singleton, show n + 1 - ((Lib.decDigits (u / 10)).length + 1) = n - (Lib.decDigits (u / 10)).length by omega]
/-- The decimal text. -/
def decB (u : Nat) : ByteArray := ⟨(Lib.decDigits u).toArray⟩
def textF (a : List Int) : ByteArray := if rb a then decB (vl a).toNat else ⟨#[]⟩
theorem ba_app (x y : List UInt8) : (⟨x.toArray⟩ : ByteArray) ++ ⟨y.toArray⟩ = ⟨(x ++ y).toArray⟩ := by
  apply ByteArray.ext
  simp [ByteArray.data_append]
theorem nl_divs {u d : Nat} (h : (nl (u : Int)).length ≤ 256) : (nl ((u / d : Nat) : Int)).length ≤ 256 := by
  have := nl_len_mono (a := (u : Int)) (b := ((u / d : Nat) : Int)) (Int.natCast_nonneg _) (Int.ofNat_le.2 (Nat.div_le_self u d))
  omega
theorem divF_nat {u d : Nat} (hd : 0 < d) (hd1 : d < 9223372036854775808) (h : (nl (u : Int)).length ≤ 256) : divF (nl (u : Int)) (d : Int) = (nl ((u / d : Nat) : Int), ((u % d : Nat) : Int), 0) := by
  unfold divF
  rw [if_pos ⟨rb_nl (by omega) h, by omega, by omega⟩, vl_nl (by omega), Int.natCast_ediv, Int.natCast_emod]
theorem nl_zero_len {u : Nat} : (nl (u : Int)).length = 0 ↔ u = 0 := by
  refine ⟨fun h => ?_, fun h => by rw [h]; exact congrArg List.length nl_zero⟩
  have := vl_nl (a := (u : Int)) (by omega)
  rw [List.eq_nil_of_length_eq_zero h] at this
  have : (0 : Int) = u := this
  omega
theorem str_one {n : Nat} (h : n < 10) : strOfNums [(IntKind.u64.wrap (48 + ((n : Nat) : Int))) % 256] = ⟨[UInt8.ofNat (48 + n)].toArray⟩ := by
  rw [u64w_id (by omega) (by omega)]
  have : ∀ m : Fin 10, strOfNums [(48 + ((m : Nat) : Int)) % 256] = ⟨[UInt8.ofNat (48 + (m : Nat))].toArray⟩ := by decide
  exact this ⟨n, h⟩
theorem ba_len (x : List UInt8) : (⟨x.toArray⟩ : ByteArray).size = x.length := by simp [ByteArray.size]
/-- How many rounds the reference's text has. -/
theorem rtext_l : ∀ (d u k : Nat) (x : List UInt8), u < 10 ^ (d + 1) → (nl (u : Int)).length ≤ 256 → x.length + d < 1000000 → 12100 + d < k →
    drawlotref10_Text.l0 k (nl (u : Int)) ⟨x.toArray⟩ = some ⟨(Lib.decDigits u ++ x).toArray⟩ := by
  intro d
  induction d with
  | zero =>
    intro u k x hu hl hx hk
    obtain ⟨k, rfl⟩ : ∃ m, k = m + 1 := ⟨k - 1, by omega⟩
    have hu : u < 10 := by simpa using hu
    simp only [drawlotref10_Text.l0]
    rw [rdiv_b (Lim_nl _) (D := 10) (by omega) k (by omega), bs, show (10 : Int) = ((10 : Nat) : Int) from rfl, divF_nat (by decide) (by decide) hl, bs]
    simp only
    rw [str_one (by omega), ba_len, ba_len, if_pos (by simp; omega), if_pos (by rw [nl_zero_len.2 (Nat.div_eq_of_lt hu)]; rfl), ba_app, dec_small hu, Nat.mod_eq_of_lt hu]
  | succ d ih =>
    intro u k x hu hl hx hk
    obtain ⟨k, rfl⟩ : ∃ m, k = m + 1 := ⟨k - 1, by omega⟩
    simp only [drawlotref10_Text.l0]
    rw [rdiv_b (Lim_nl _) (D := 10) (by omega) k (by omega), bs, show (10 : Int) = ((10 : Nat) : Int) from rfl, divF_nat (by decide) (by decide) hl, bs]
    simp only
    rw [str_one (by omega), ba_len, ba_len, if_pos (by simp; omega), ba_app]
    by_cases c : u < 10
    · rw [if_pos (by rw [nl_zero_len.2 (Nat.div_eq_of_lt c)]; rfl), dec_small c, Nat.mod_eq_of_lt c]
    · rw [if_neg (by
        intro e
        have := nl_zero_len.1 (Int.ofNat.inj e)
        omega), dec_big c, List.append_assoc]
      rw [Nat.pow_succ] at hu
      exact ih (u / 10) k _ (by omega) (nl_divs hl) (by simp; omega) (by omega)
theorem few_digits {a : List Int} (h : Lim a) {c : Nat} (hl : a.length ≤ c) {m : Nat} (hm : 10 * c ≤ m) : (vl a).toNat < 10 ^ m := by
  have p := vl_lt h
  have q := Bmono hl
  have s := vl_nonneg h
  have r : (4294967296 : Nat) ^ c ≤ (10 ^ 10) ^ c := Nat.pow_le_pow_left (by decide) c
  rw [← Nat.pow_mul] at r
  have r2 : (4294967296 : Nat) ^ c ≤ 10 ^ m := Nat.le_trans r (Nat.pow_le_pow_right (by decide) hm)
  have r3 : (((4294967296 : Nat) ^ c : Nat) : Int) = (4294967296 : Int) ^ c := Int.natCast_pow _ _
  omega
theorem rtext_b {a : List Int} (ha : Lim a) (k : Nat) (hk : 16000 ≤ k) : drawlotref10_Text.f k a = some (textF a) := by
  unfold drawlotref10_Text.f textF
  rw [rright_b ha, bs]
  by_cases c : rb a = true
  · rw [if_pos c, if_pos c]
    have s := vl_nonneg ha
    obtain ⟨D, hD⟩ : ∃ D : Nat, D = 2999 := ⟨_, rfl⟩
    have e := rtext_l D (vl a).toNat k [] (few_digits ha (can_len c) (by omega)) (by rw [Int.toNat_of_nonneg s, can_eq c]; exact can_len c) (by rw [hD]; simp) (by omega)
    rw [Int.toNat_of_nonneg s, can_eq c, List.append_nil] at e
    exact e
  · rw [if_neg c, if_neg c]

/-- The parts of nine digits, the lowest first. -/
theorem rev_l (l : List ByteArray) : ∀ (d k i : Nat) (z : List ByteArray), z.length = l.length → 2 * i + d = l.length → d < k → l.length < 1000000 →
    (∀ j : Nat, j < l.length → z.getD j ByteArray.empty = if j < i ∨ l.length - i ≤ j then l.reverse.getD j ByteArray.empty else l.getD j ByteArray.empty) →
    slices_Reverse_string_string.l0 k z (i : Int) (((l.length : Nat) : Int) - 1 - (i : Int)) = some l.reverse := by
  intro d
  induction d using Nat.strongRecOn with
  | _ d ih =>
    intro k i z hz hd hk hm hv
    obtain ⟨k, rfl⟩ : ∃ m, k = m + 1 := ⟨k - 1, by omega⟩
    simp only [slices_Reverse_string_string.l0]
    have full : (∀ j : Nat, j < l.length → z.getD j ByteArray.empty = l.reverse.getD j ByteArray.empty) → z = l.reverse := fun h => by
      refine List.ext_getElem (by rw [List.length_reverse]; exact hz) fun j h1 h2 => ?_
      have := h j (by omega)
      rw [List.getD_eq_getElem?_getD, List.getD_eq_getElem?_getD, List.getElem?_eq_getElem h1, List.getElem?_eq_getElem h2] at this
      exact this
    by_cases c : d ≤ 1
    · rw [if_neg (by omega)]
      congr 1
      refine full fun j hj => ?_
      rw [hv j hj]
      by_cases e : j < i ∨ l.length - i ≤ j
      · rw [if_pos e]
      · rw [if_neg e]
        have e1 : l.length - 1 - j = j := by omega
        rw [List.getD_eq_getElem?_getD, List.getD_eq_getElem?_getD, List.getElem?_reverse hj, e1]
    · obtain ⟨q, hq⟩ : ∃ q : Nat, ((l.length : Nat) : Int) - 1 - (i : Int) = (q : Int) ∧ q = l.length - 1 - i := ⟨l.length - 1 - i, by omega, rfl⟩
      rw [hq.1, if_pos (by omega), if_pos (by omega), if_pos (by omega), if_pos (by omega), if_pos (by omega), w64_id (by omega) (by omega), w64_id (by omega) (by omega), Int.toNat_natCast, Int.toNat_natCast,
        show (i : Int) + 1 = ((i + 1 : Nat) : Int) by omega, show (q : Int) - 1 = ((l.length : Nat) : Int) - 1 - ((i + 1 : Nat) : Int) by omega]
      refine ih (d - 2) (by omega) k (i + 1) _ (by rw [List.length_set, List.length_set]; exact hz) (by omega) (by omega) hm fun j hj => ?_
      have rq : rdOf ByteArray.empty z (q : Int) = l.getD q ByteArray.empty := by
        unfold rdOf
        rw [Int.toNat_natCast, hv q (by omega), if_neg (by omega)]
      have ri : rdOf ByteArray.empty z (i : Int) = l.getD i ByteArray.empty := by
        unfold rdOf
        rw [Int.toNat_natCast, hv i (by omega), if_neg (by omega)]
      rw [rq, ri]
      by_cases e1 : j = q
      · subst e1
        rw [if_pos (by omega), List.getD_eq_getElem?_getD, List.getElem?_set_self (by rw [List.length_set]; omega), List.getD_eq_getElem?_getD (l := l.reverse), List.getElem?_reverse hj, show l.length - 1 - j = i by omega, ← List.getD_eq_getElem?_getD]
        rfl
      · rw [List.getD_eq_getElem?_getD, List.getElem?_set_ne (Ne.symm e1)]
        by_cases e2 : j = i
        · subst e2
          rw [if_pos (by omega), List.getElem?_set_self (by omega), List.getD_eq_getElem?_getD (l := l.reverse), List.getElem?_reverse hj, show l.length - 1 - j = q by omega, ← List.getD_eq_getElem?_getD]
          rfl
        · rw [List.getElem?_set_ne (Ne.symm e2), ← List.getD_eq_getElem?_getD, hv j hj]
          by_cases e3 : j < i ∨ l.length - i ≤ j
          · rw [if_pos e3, if_pos (by omega)]
          · rw [if_neg e3, if_neg (by omega)]
theorem rev_p (l : List ByteArray) (hm : l.length < 1000000) (k : Nat) (hk : l.length < k) : slices_Reverse_string_string.f k l = some l.reverse := by
  unfold slices_Reverse_string_string.f
  rw [w64_id (by omega) (by omega)]
  have := rev_l l l.length k 0 l rfl (by omega) hk hm (fun j hj => by rw [if_neg (by omega)])
  rw [show ((0 : Nat) : Int) = 0 from rfl, Int.sub_zero] at this
  exact this
/-- All parts, the last first. -/
def back : List ByteArray → List UInt8
  | [] => []
  | p :: ps => back ps ++ p.data.toList
theorem back_append (a b : List ByteArray) : back (a ++ b) = back b ++ back a := by
  induction a with
  | nil => simp [back]
  | cons p a ih => simp only [List.cons_append, back, ih, List.append_assoc]
theorem join_flat (l : List ByteArray) : Lib.join (l.map (·.data.toList)) [] = (l.map (·.data.toList)).flatten := by
  cases l with
  | nil => rfl
  | cons p l =>
    rw [List.map_cons, Lib.join_cons, List.flatten_cons]
    unfold Lib.joinTail
    simp [Function.comp_def]
theorem flat_rev (l : List ByteArray) : (l.reverse.map (·.data.toList)).flatten = back l := by
  induction l with
  | nil => rfl
  | cons p l ih => simp only [List.reverse_cons, List.map_append, List.flatten_append, ih, back, List.map_cons, List.map_nil, List.flatten_cons, List.flatten_nil, List.append_nil]
theorem join_rev (l : List ByteArray) (hl : l.length < 1000000) (hb : (back l).length < 10000000) : strings_Join.f l.reverse (⟨#[]⟩ : ByteArray) = some ⟨(back l).toArray⟩ := by
  unfold strings_Join.f
  have e : Lib.join (l.reverse.map (·.data.toList)) (⟨#[]⟩ : ByteArray).data.toList = back l := (join_flat _).trans (flat_rev l)
  rw [e, if_pos ⟨by omega, by rw [List.length_reverse]; omega⟩]
theorem fmt_p {n : Nat} (h : n < 18446744073709551616) : strconv_FormatUint_44.f (n : Int) 10 = some (decB n) := by
  unfold strconv_FormatUint_44.f decB
  rw [if_pos ⟨rfl, by omega, by omega⟩, Int.toNat_natCast]
theorem rep_p {n : Nat} (h : n ≤ 9) : strings_Repeat.f (⟨#[48]⟩ : ByteArray) (n : Int) = some ⟨(List.replicate n 48).toArray⟩ := by
  unfold strings_Repeat.f
  rw [if_pos ⟨by omega, by omega, by decide⟩, Int.toNat_natCast]
  have : Lib.repeatL (⟨#[48]⟩ : ByteArray).data.toList n = List.replicate n 48 := by
    have := Lib.repeatL_replicate 48 1 n
    rw [Nat.mul_one] at this
    exact this
  rw [this]
theorem decB_size (u : Nat) : (decB u).size = (Lib.decDigits u).length := by unfold decB; rw [ba_len]
theorem decB_list (u : Nat) : (decB u).data.toList = Lib.decDigits u := by unfold decB; simp
theorem text_l : ∀ (d u k : Nat) (ps : List ByteArray), u < 10 ^ (9 * (d + 1)) → (nl (u : Int)).length ≤ 256 → ps.length + d < 1000 → (back ps).length + 9 * (d + 1) < 1000000 → 14000 + d < k →
    nat_Text.l0 k (nl (u : Int)) ps = some ⟨(Lib.decDigits u ++ back ps).toArray⟩ := by
  intro d
  induction d with
  | zero =>
    intro u k ps hu hl hp hb hk
    obtain ⟨k, rfl⟩ : ∃ m, k = m + 1 := ⟨k - 1, by omega⟩
    have hu : u < 1000000000 := by simpa using hu
    have dl := nDig_le 9 u (by decide) hu
    rw [← Lib.decDigits_length] at dl
    simp only [nat_Text.l0]
    rw [div_b (Lim_nl _) (D := 1000000000) (by omega) k (by omega), bs, show (1000000000 : Int) = ((1000000000 : Nat) : Int) from rfl, divF_nat (by decide) (by decide) hl]
    simp only
    rw [fmt_p (by omega), bs, if_pos (by rw [nl_zero_len.2 (Nat.div_eq_of_lt hu)]; rfl), if_pos (by omega), rev_p _ (by simp; omega) k (by simp; omega), bs, join_rev _ (by simp; omega) (by rw [back_append]; simp only [back, decB_list, List.length_append, Nat.mod_eq_of_lt hu, List.nil_append]; omega), bs, back_append, Nat.mod_eq_of_lt hu]
    simp only [back, decB_list, List.nil_append]
  | succ d ih =>
    intro u k ps hu hl hp hb hk
    obtain ⟨k, rfl⟩ : ∃ m, k = m + 1 := ⟨k - 1, by omega⟩
    have dl := nDig_le 9 (u % 1000000000) (by decide) (Nat.mod_lt _ (by decide))
    rw [← Lib.decDigits_length] at dl
    simp only [nat_Text.l0]
    rw [div_b (Lim_nl _) (D := 1000000000) (by omega) k (by omega), bs, show (1000000000 : Int) = ((1000000000 : Nat) : Int) from rfl, divF_nat (by decide) (by decide) hl]
    simp only
    rw [fmt_p (by omega), bs]
    by_cases c : u < 1000000000
    · rw [if_pos (by rw [nl_zero_len.2 (Nat.div_eq_of_lt c)]; rfl), if_pos (by omega), rev_p _ (by simp; omega) k (by simp; omega), bs, join_rev _ (by simp; omega) (by rw [back_append]; simp only [back, decB_list, List.length_append, List.nil_append]; omega), bs, back_append, Nat.mod_eq_of_lt c]
      simp only [back, decB_list, List.nil_append]
    · rw [if_neg (by
        intro e
        have := nl_zero_len.1 (Int.ofNat.inj e)
        omega), decB_size, w64_id (by omega) (by omega), show (9 : Int) - ((Lib.decDigits (u % 1000000000)).length : Int) = ((9 - (Lib.decDigits (u % 1000000000)).length : Nat) : Int) by omega, rep_p (by omega), bs, ba_len, List.length_replicate, if_pos (by omega), if_pos (by omega)]
      have lp := low_pad 9 (u % 1000000000) (by decide) (Nat.mod_lt _ (by decide))
      have hp : (10 : Nat) ^ (9 * (d + 1 + 1)) = 10 ^ (9 * (d + 1)) * 1000000000 := by rw [show 9 * (d + 1 + 1) = 9 * (d + 1) + 9 by omega, Nat.pow_add]
      rw [hp] at hu
      have eb : back (ps ++ [(⟨(List.replicate (9 - (Lib.decDigits (u % 1000000000)).length) 48).toArray⟩ : ByteArray) ++ decB (u % 1000000000)]) = low 9 (u % 1000000000) ++ back ps := by
        rw [back_append, lp]
        unfold decB
        rw [ba_app]
        simp [back]
      have ll : (low 9 (u % 1000000000)).length = 9 := by
        rw [lp, List.length_append, List.length_replicate]; omega
      rw [ih (u / 1000000000) k _ (Nat.div_lt_of_lt_mul (by rw [Nat.mul_comm]; exact hu)) (nl_divs hl) (by simp; omega) (by rw [eb, List.length_append, ll]; omega) (by omega), eb, ← List.append_assoc]
      have := low_split 9 (u % 1000000000) (u / 1000000000) (by omega)
      rw [show (10 : Nat) ^ 9 = 1000000000 from rfl, Nat.mod_mod, Nat.div_add_mod' u 1000000000] at this
      rw [← this]
theorem text_b {a : List Int} (ha : Lim a) (k : Nat) (hk : 16000 ≤ k) : nat_Text.f k a = some (textF a) := by
  unfold nat_Text.f textF
  rw [right_b ha k (by omega), bs]
  by_cases c : rb a = true
  · rw [if_pos c, if_pos c]
    have s := vl_nonneg ha
    obtain ⟨D, hD⟩ : ∃ D : Nat, D = 333 := ⟨_, rfl⟩
    have e := text_l D (vl a).toNat k [] (few_digits ha (can_len c) (by omega)) (by rw [Int.toNat_of_nonneg s, can_eq c]; exact can_len c) (by rw [hD]; simp) (by rw [hD]; simp [back]) (by omega)
    rw [Int.toNat_of_nonneg s, can_eq c] at e
    simp only [back, List.append_nil] at e
    exact e
  · rw [if_neg c, if_neg c]
end Go.Proofs.YtgfkclgpphnjfaaDoor.Lm
