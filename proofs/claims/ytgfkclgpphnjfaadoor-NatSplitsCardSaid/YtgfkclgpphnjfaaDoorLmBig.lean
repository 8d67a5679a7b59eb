/- What the program's and the reference's functions on numbers answer at any limbs, in plain Lean. No conditions. -/
import Derived.Test.YtgfkclgpphnjfaaDoorPNx1
import Derived.Test.YtgfkclgpphnjfaaDoorPNx2
import Derived.Test.YtgfkclgpphnjfaaDoorPNx4
import Derived.Test.YtgfkclgpphnjfaaDoorPNx7
import Derived.Test.YtgfkclgpphnjfaaDoorPNx8
import Derived.Test.YtgfkclgpphnjfaaDoorLmNatR
import Derived.Test.YtgfkclgpphnjfaaDoorLmDiv
namespace Go.Proofs.YtgfkclgpphnjfaaDoor.Lm
open Go.RowKit Go.Proofs.YtgfkclgpphnjfaaDoorW.PrintWords Go.Proofs.YtgfkclgpphnjfaaDoor.PN

/-- A number that may be: few limbs, no zero at the top. -/
def rb (l : List Int) : Bool := decide (l.length ≤ 256) && decide (nl (vl l) = l)
theorem rb_iff {l : List Int} (_ : Lim l) : rb l = true ↔ l.length ≤ 256 ∧ Can l := by
  unfold rb
  rw [Bool.and_eq_true, decide_eq_true_eq, decide_eq_true_eq]
  exact ⟨fun ⟨a, b⟩ => ⟨a, b ▸ Can_nl _⟩, fun ⟨a, b⟩ => ⟨a, nl_vl b⟩⟩
theorem rb_nl {a : Int} (_ : 0 ≤ a) (h : (nl a).length ≤ 256) : rb (nl a) = true := (rb_iff (Lim_nl a)).2 ⟨h, Can_nl a⟩
theorem can_eq {l : List Int} (h : rb l = true) : nl (vl l) = l := by
  unfold rb at h
  rw [Bool.and_eq_true, decide_eq_true_eq, decide_eq_true_eq] at h
  exact h.2
theorem can_len {l : List Int} (h : rb l = true) : l.length ≤ 256 := by
  unfold rb at h
  rw [Bool.and_eq_true, decide_eq_true_eq, decide_eq_true_eq] at h
  exact h.1
theorem vl_inj : ∀ {a b : List Int}, Lim a → Lim b → a.length = b.length → vl a = vl b → a = b := by
  intro a
  induction a with
  | nil => intro b _ _ h _; exact (List.eq_nil_of_length_eq_zero h.symm).symm
  | cons x a ih =>
    intro b ha hb h e
    match b, hb, h, e with
    | y :: b, hb, h, e =>
      have p := ha.head
      have q := hb.head
      simp only [vl] at e
      have e1 : x = y := by omega
      subst e1
      rw [ih ha.tail hb.tail (by simpa using h) (by omega)]
theorem right_b {l : List Int} (h : Lim l) (k : Nat) (hk : 257 ≤ k) : nat_Right.f k l = some (rb l) := by
  unfold nat_Right.f rb
  by_cases c : l.length ≤ 256
  · rw [if_pos (by omega), trim_p l.length k l rfl h (by omega) (by omega), bs, decide_eq_true c, Bool.true_and]
    congr 1
    rw [Bool.eq_iff_iff, beq_iff_eq, decide_eq_true_eq]
    exact ⟨fun e => vl_inj (Lim_nl _) h (by omega) (vl_nl (vl_nonneg h)), fun e => by rw [e]⟩
  · rw [if_neg (by omega), decide_eq_false c, Bool.false_and]
theorem rright_b {l : List Int} (h : Lim l) : drawlotref10_Right.f l = some (rb l) := by
  by_cases c : rb l = true
  · obtain ⟨a, b⟩ := (rb_iff h).1 c
    rw [rright_p b a, c]
  · rw [Bool.eq_false_iff.2 c]
    unfold drawlotref10_Right.f
    by_cases d : l.length ≤ 256
    · rw [if_pos (by omega)]
      by_cases e : l.length = 0
      · exact absurd ((rb_iff h).2 ⟨d, by rw [List.eq_nil_of_length_eq_zero e]; exact Can.nil⟩) c
      · obtain ⟨n, hn⟩ : ∃ n, l.length = n + 1 := ⟨l.length - 1, by omega⟩
        rw [hn, nat_down (by omega), if_neg (by omega), if_pos (by omega), if_pos (by omega)]
        congr 1
        rw [bne_eq_false_iff_eq]
        exact Decidable.byContradiction fun g => c ((rb_iff h).2 ⟨d, h, fun m hm => by have : m = n := by omega
                                                                                       exact this ▸ g⟩)
    · rw [if_neg (by omega)]
/-- All are limbs. -/
def Lims (ls : List (List Int)) : Prop := ∀ l ∈ ls, Lim l
theorem Lims.nil : Lims [] := fun _ h => nomatch h
theorem Lims.cons {l : List Int} {ls : List (List Int)} (h : Lim l) (hs : Lims ls) : Lims (l :: ls) := fun x hx => (List.mem_cons.1 hx).elim (fun e => e ▸ h) (hs x)
theorem rd_L1_get {ls : List (List Int)} {n : Nat} (h : n < ls.length) : rd_L1 ls (n : Int) = ls[n] := by
  unfold rd_L1
  rw [Int.toNat_natCast, List.getD_eq_getElem?_getD, List.getElem?_eq_getElem h]; rfl
theorem dropL {ls : List (List Int)} {n : Nat} (h : n < ls.length) : ls.drop n = ls[n] :: ls.drop (n + 1) := List.drop_eq_getElem_cons h
theorem rights_lb {ls : List (List Int)} (hl : Lims ls) (k : Nat) (hk : 257 ≤ k) (hm : ls.length < 1000000) : ∀ (d j n : Nat), n + d = ls.length → k + d < j →
    ∃ r : Int, slices_IndexFunc_57_with_nat_rights_1.l0 j ls (ls.length : Int) (n : Int) = some r ∧ decide (r ≥ 0) = !(ls.drop n).all rb := by
  intro d
  induction d with
  | zero =>
    intro j n hn hj
    obtain ⟨j, rfl⟩ : ∃ m, j = m + 1 := ⟨j - 1, by omega⟩
    simp only [slices_IndexFunc_57_with_nat_rights_1.l0]
    rw [if_neg (by omega), List.drop_eq_nil_of_le (by omega)]
    exact ⟨-1, rfl, by decide⟩
  | succ d ih =>
    intro j n hn hj
    obtain ⟨j, rfl⟩ : ∃ m, j = m + 1 := ⟨j - 1, by omega⟩
    have hi : n < ls.length := by omega
    simp only [slices_IndexFunc_57_with_nat_rights_1.l0, nat_rights_1.f]
    rw [if_pos (by omega), if_pos (by omega), if_pos (by omega), rd_L1_get hi, right_b (hl _ (List.getElem_mem hi)) j (by omega), bs, bs, dropL hi]
    by_cases c : rb ls[n] = true
    · rw [c, if_neg (by decide), nat_up (by omega), List.all_cons, c, Bool.true_and]
      exact ih j (n + 1) (by omega) (by omega)
    · rw [Bool.eq_false_iff.2 c, if_pos (by decide), List.all_cons, Bool.eq_false_iff.2 c, Bool.false_and]
      exact ⟨_, rfl, by simp⟩
theorem rights_b {ls : List (List Int)} (hl : Lims ls) (hm : ls.length < 1000000) (k : Nat) (hk : ls.length + 300 ≤ k) : nat_rights.f k ls = some (ls.all rb) := by
  unfold nat_rights.f slices_ContainsFunc_48_with_nat_rights_1.f slices_IndexFunc_57_with_nat_rights_1.f
  obtain ⟨r, e, h⟩ := rights_lb hl 257 (Nat.le_refl _) hm ls.length k 0 (by omega) (by omega)
  rw [show ((0 : Nat) : Int) = 0 from rfl] at e
  rw [e, bs, bs, h, List.drop_zero, Bool.not_not]
theorem rall_lb {ls : List (List Int)} (hl : Lims ls) (hm : ls.length < 1000000) : ∀ (d k n : Nat), n + d = ls.length → d < k → drawlotref10_all.l0 k ls (n : Int) = some ((ls.drop n).all rb) := by
  intro d
  induction d with
  | zero =>
    intro j n hn hj
    obtain ⟨j, rfl⟩ : ∃ m, j = m + 1 := ⟨j - 1, by omega⟩
    simp only [drawlotref10_all.l0]
    rw [if_neg (by omega), List.drop_eq_nil_of_le (by omega)]; rfl
  | succ d ih =>
    intro j n hn hj
    obtain ⟨j, rfl⟩ : ∃ m, j = m + 1 := ⟨j - 1, by omega⟩
    have hi : n < ls.length := by omega
    simp only [drawlotref10_all.l0]
    rw [if_pos (by omega), if_pos (by omega), rd_L1_get hi, rright_b (hl _ (List.getElem_mem hi)), bs, dropL hi]
    by_cases c : rb ls[n] = true
    · rw [c, if_pos rfl, nat_up (by omega), List.all_cons, c, Bool.true_and]
      exact ih j (n + 1) (by omega) (by omega)
    · rw [Bool.eq_false_iff.2 c, if_neg (by decide), List.all_cons, Bool.eq_false_iff.2 c, Bool.false_and]
theorem rall_b {ls : List (List Int)} (hl : Lims ls) (hm : ls.length < 1000000) (k : Nat) (hk : ls.length < k) : drawlotref10_all.f k ls = some (ls.all rb) := by
  have := rall_lb hl hm ls.length k 0 (by omega) hk
  rw [List.drop_zero] at this
  exact this
/-- The order of two numbers. -/
def sg (a b : Int) : Int := if a < b then -1 else if b < a then 1 else 0
def cF (a b : List Int) : Int := if rb a && rb b then sg (vl a) (vl b) else 0
theorem cmp_lx {a b : List Int} (ha : Lim a) (hb : Lim b) (hab : a.length = b.length) (hm : a.length < 4611686018427387904) : ∀ (n k : Nat), n ≤ a.length → n < k → a.drop n = b.drop n →
    nat_Cmp.l0 k a b ((n : Int) - 1) = some (sg (vl a) (vl b)) := by
  intro n
  induction n with
  | zero =>
    intro k hn hk he
    obtain ⟨k, rfl⟩ : ∃ m, k = m + 1 := ⟨k - 1, by omega⟩
    simp only [nat_Cmp.l0]
    rw [List.drop_zero, List.drop_zero] at he
    rw [if_neg (by omega), he]
    unfold sg
    rw [if_neg (by omega), if_neg (by omega)]
  | succ n ih =>
    intro k hn hk he
    obtain ⟨k, rfl⟩ : ∃ m, k = m + 1 := ⟨k - 1, by omega⟩
    rw [show ((n + 1 : Nat) : Int) - 1 = (n : Int) by omega]
    simp only [nat_Cmp.l0]
    rw [if_pos (by omega), if_pos (by omega), if_pos (by omega), if_pos (by omega)]
    by_cases c : rd a (n : Int) < rd b (n : Int)
    · have := vl_top ha hb n he c
      rw [if_pos c]; unfold sg; rw [if_pos this]
    · rw [if_neg c]
      by_cases d : rd a (n : Int) > rd b (n : Int)
      · have := vl_top hb ha n he.symm d
        rw [if_pos d]; unfold sg; rw [if_neg (by omega), if_pos this]
      · rw [if_neg d, w64_id (by omega) (by omega)]
        refine ih k (by omega) (by omega) ?_
        rw [drop_step (l := a) (by omega), drop_step (l := b) (by omega), he, show rd a (n : Int) = rd b (n : Int) by omega]
theorem rcmp_lx {a b : List Int} (ha : Lim a) (hb : Lim b) (hab : a.length = b.length) (hm : a.length < 4611686018427387904) : ∀ (n k : Nat), n ≤ a.length → n < k → a.drop n = b.drop n →
    drawlotref10_Cmp.l0 k a b ((n : Int) - 1) = some (sg (vl a) (vl b)) := by
  intro n
  induction n with
  | zero =>
    intro k hn hk he
    obtain ⟨k, rfl⟩ : ∃ m, k = m + 1 := ⟨k - 1, by omega⟩
    simp only [drawlotref10_Cmp.l0]
    rw [List.drop_zero, List.drop_zero] at he
    rw [if_neg (by omega), he]
    unfold sg
    rw [if_neg (by omega), if_neg (by omega)]
  | succ n ih =>
    intro k hn hk he
    obtain ⟨k, rfl⟩ : ∃ m, k = m + 1 := ⟨k - 1, by omega⟩
    rw [show ((n + 1 : Nat) : Int) - 1 = (n : Int) by omega]
    simp only [drawlotref10_Cmp.l0]
    rw [if_pos (by omega), if_pos (by omega), if_pos (by omega), if_pos (by omega)]
    by_cases c : rd a (n : Int) < rd b (n : Int)
    · have := vl_top ha hb n he c
      rw [if_pos c]; unfold sg; rw [if_pos this]
    · rw [if_neg c]
      by_cases d : rd a (n : Int) > rd b (n : Int)
      · have := vl_top hb ha n he.symm d
        rw [if_pos d]; unfold sg; rw [if_neg (by omega), if_pos this]
      · rw [if_neg d, w64_id (by omega) (by omega)]
        refine ih k (by omega) (by omega) ?_
        rw [drop_step (l := a) (by omega), drop_step (l := b) (by omega), he, show rd a (n : Int) = rd b (n : Int) by omega]
theorem len_lt {a b : List Int} (ha : Lim a) (hb : Can b) (h : a.length < b.length) : vl a < vl b := by
  have p := vl_lt ha
  have q := vl_ge (b.length - 1) hb (by omega)
  have := Bmono (show a.length ≤ b.length - 1 by omega)
  omega
theorem mm_neg {x : Int} (h : x < 0) : mn (mx x (-1)) 1 = -1 := by
  have : mx x (-1) = -1 := by unfold mx; split <;> omega
  rw [this]; decide
theorem mm_pos {x : Int} (h : 0 < x) : mn (mx x (-1)) 1 = 1 := by
  have : mx x (-1) = x := by unfold mx; rw [if_neg (by omega)]
  rw [this]; unfold mn; split <;> omega
theorem cmp_b {a b : List Int} (ha : Lim a) (hb : Lim b) (k : Nat) (hk : 310 ≤ k) : nat_Cmp.f k a b = some (cF a b) := by
  unfold nat_Cmp.f cF
  rw [rights_b (Lims.cons ha (Lims.cons hb Lims.nil)) (by simp) k (by simp; omega), bs, List.all_cons, List.all_cons, List.all_nil, Bool.and_true]
  by_cases c : (rb a && rb b) = true
  · rw [c, if_pos rfl, if_pos rfl]
    rw [Bool.and_eq_true] at c
    obtain ⟨ma, ca⟩ := (rb_iff ha).1 c.1
    obtain ⟨mb, cb⟩ := (rb_iff hb).1 c.2
    by_cases e : a.length = b.length
    · rw [if_pos (by omega), w64_id (by omega) (by omega)]
      exact cmp_lx ha hb e (by omega) _ k (Nat.le_refl _) (by omega) (by rw [List.drop_eq_nil_of_le (by omega), List.drop_eq_nil_of_le (by omega)])
    · rw [if_neg (by omega), w64_id (by omega) (by omega)]
      unfold sg
      rcases Nat.lt_or_gt_of_ne e with g | g
      · have := len_lt ha cb g
        rw [if_pos this, mm_neg (by omega)]
      · have := len_lt hb ca g
        rw [if_neg (by omega), if_pos this, mm_pos (by omega)]
  · rw [Bool.eq_false_iff.2 c, if_neg (by decide), if_neg (by decide)]
theorem rcmp_b {a b : List Int} (ha : Lim a) (hb : Lim b) (k : Nat) (hk : 310 ≤ k) : drawlotref10_Cmp.f k a b = some (cF a b) := by
  unfold drawlotref10_Cmp.f cF
  obtain ⟨k, rfl⟩ : ∃ m, k = m + 1 := ⟨k - 1, by omega⟩
  rw [rright_b ha, bs, rright_b hb]
  simp only [drawlotref10_Cmp.j0]
  by_cases c : rb a = true
  · rw [c, if_pos rfl, bs, Bool.true_and]
    by_cases d : rb b = true
    · obtain ⟨ma, ca⟩ := (rb_iff ha).1 c
      obtain ⟨mb, cb⟩ := (rb_iff hb).1 d
      rw [d, if_neg (by decide), if_pos rfl]
      by_cases e : a.length = b.length
      · rw [if_pos (by omega), w64_id (by omega) (by omega)]
        exact rcmp_lx ha hb e (by omega) _ k (Nat.le_refl _) (by omega) (by rw [List.drop_eq_nil_of_le (by omega), List.drop_eq_nil_of_le (by omega)])
      · rw [if_neg (by omega)]
        unfold sg
        rcases Nat.lt_or_gt_of_ne e with g | g
        · have := len_lt ha cb g
          rw [if_pos (by omega), if_pos this]
        · have := len_lt hb ca g
          rw [if_neg (by omega), if_neg (by omega), if_pos this]
    · rw [Bool.eq_false_iff.2 d, if_pos (by decide), if_neg (by decide)]
  · rw [Bool.eq_false_iff.2 c, if_neg (by decide), if_pos trivial, Bool.false_and, if_neg (by decide)]
def subF (a b : List Int) : List Int × Int := if rb a && rb b then (if vl a < vl b then ([], 12) else (nl (vl a - vl b), 0)) else ([], 1)
theorem cF_neg {a b : List Int} (h : (rb a && rb b) = true) : cF a b < 0 ↔ vl a < vl b := by
  unfold cF sg
  rw [if_pos h]
  by_cases c : vl a < vl b
  · rw [if_pos c]; exact ⟨fun _ => c, fun _ => by decide⟩
  · rw [if_neg c]
    refine ⟨fun g => ?_, fun g => absurd g c⟩
    split at g <;> omega
theorem sub_b {a b : List Int} (ha : Lim a) (hb : Lim b) (k : Nat) (hk : 700 ≤ k) : nat_Sub.f k a b = some (subF a b) := by
  unfold subF
  by_cases c : (rb a && rb b) = true
  · rw [if_pos c]
    have c' := c
    rw [Bool.and_eq_true] at c'
    by_cases d : vl a < vl b
    · rw [if_pos d]
      unfold nat_Sub.f
      rw [rights_b (Lims.cons ha (Lims.cons hb Lims.nil)) (by simp) k (by simp; omega), bs, List.all_cons, List.all_cons, List.all_nil, Bool.and_true, if_pos c, cmp_b ha hb k (by omega), bs, if_pos ((cF_neg c).2 d)]
    · rw [if_neg d]
      have := sub_p (a := vl a) (b := vl b) (vl_nonneg hb) (by omega) (by rw [can_eq c'.1]; exact can_len c'.1) k (by omega)
      rw [can_eq c'.1, can_eq c'.2] at this
      exact this
  · rw [if_neg c]
    unfold nat_Sub.f
    rw [rights_b (Lims.cons ha (Lims.cons hb Lims.nil)) (by simp) k (by simp; omega), bs, List.all_cons, List.all_cons, List.all_nil, Bool.and_true, if_neg c]
theorem rsub_b {a b : List Int} (ha : Lim a) (hb : Lim b) (k : Nat) (hk : 700 ≤ k) : drawlotref10_Sub.f k a b = some (subF a b) := by
  unfold subF
  by_cases c : (rb a && rb b) = true
  · rw [if_pos c]
    have c' := c
    rw [Bool.and_eq_true] at c'
    by_cases d : vl a < vl b
    · rw [if_pos d]
      unfold drawlotref10_Sub.f
      obtain ⟨k, rfl⟩ : ∃ m, k = m + 1 := ⟨k - 1, by omega⟩
      rw [rright_b ha, bs, rright_b hb, c'.1, c'.2, if_pos rfl, bs]
      simp only [drawlotref10_Sub.j0]
      rw [if_neg (by decide), rcmp_b ha hb k (by omega), bs, if_pos ((cF_neg c).2 d)]
    · rw [if_neg d]
      have := rsub_p (a := vl a) (b := vl b) (vl_nonneg hb) (by omega) (by rw [can_eq c'.1]; exact can_len c'.1) k (by omega)
      rw [can_eq c'.1, can_eq c'.2] at this
      exact this
  · rw [if_neg c]
    unfold drawlotref10_Sub.f
    obtain ⟨k, rfl⟩ : ∃ m, k = m + 1 := ⟨k - 1, by omega⟩
    rw [rright_b ha, bs, rright_b hb]
    simp only [drawlotref10_Sub.j0]
    by_cases e : rb a = true
    · rw [e, Bool.true_and] at c
      rw [e, Bool.eq_false_iff.2 c, if_pos rfl, bs, if_pos (by decide)]
    · rw [Bool.eq_false_iff.2 e, if_neg (by decide), if_pos trivial]
theorem sum_l {a b : List Int} (ha : Lim a) (hb : Lim b) (hm : a.length < 1000000) (hab : b.length ≤ a.length) : ∀ (d k n : Nat) (z : List Int) (w : Int), n + d = a.length → d + a.length + 5 < k → z.length = a.length + 1 → Lim z → (∀ p : Nat, n ≤ p → rd z (p : Int) = 0) → 0 ≤ w → w ≤ 1 →
    vl z + w * 4294967296 ^ n = vl (a.take n) + vl (b.take n) → nat_sum_half.l0 k a b z w a (a.length : Int) (n : Int) = some (nl (vl a + vl b)) := by
  intro d
  induction d with
  | zero =>
    intro k n z w hn hk hz hl h0 hw0 hw1 hi
    obtain ⟨k, rfl⟩ : ∃ m, k = m + 1 := ⟨k - 1, by omega⟩
    simp only [nat_sum_half.l0]
    rw [List.take_of_length_le (by omega), List.take_of_length_le (by omega)] at hi
    rw [if_neg (by omega), if_pos (by omega), if_pos (by omega), Int.toNat_natCast, Int.emod_eq_of_lt hw0 (by omega), trim_p z.length k _ (by rw [List.length_set]) (hl.set _ (by omega)) (by omega) (by omega), bs, vl_set (by omega), h0 _ (by omega)]
    rw [show a.length = n by omega, Int.sub_zero, Int.mul_comm, hi]
  | succ d ih =>
    intro k n z w hn hk hz hl h0 hw0 hw1 hi
    obtain ⟨k, rfl⟩ : ∃ m, k = m + 1 := ⟨k - 1, by omega⟩
    have ra := ha.rd n
    have rb := hb.rd n
    have step : nat_sum_half.l0 (k + 1) a b z w a (a.length : Int) (n : Int) = nat_sum_half.l0 k a b (z.set n ((w + rd a (n : Int) + rd b (n : Int)) % 4294967296)) ((w + rd a (n : Int) + rd b (n : Int)) / 4294967296) a (a.length : Int) ((n + 1 : Nat) : Int) := by
      simp only [nat_sum_half.l0]
      rw [if_pos (by omega), if_pos (by omega), if_pos (by omega), u64w_id (x := rd a (n : Int)) (by omega) (by omega), u64w_id (x := w + rd a (n : Int)) (by omega) (by omega), nat_up (by omega), Int.toNat_natCast]
      by_cases c : (n : Int) < (b.length : Int)
      · rw [if_pos c, if_pos (by omega), u64w_id (x := rd b (n : Int)) (by omega) (by omega), u64w_id (x := w + rd a (n : Int) + rd b (n : Int)) (by omega) (by omega)]
      · rw [if_neg c, if_pos (by omega), rd_out (l := b) (by omega), Int.add_zero]
    rw [step]
    refine ih k (n + 1) _ _ (by omega) (by omega) (by rw [List.length_set]; exact hz) (hl.set n (by omega)) (fun p hp => by rw [rd_set_ne _ (by omega)]; exact h0 p (by omega)) (by omega) (by omega) ?_
    rw [vl_set (by omega), h0 n (Nat.le_refl n), vl_take_succ, vl_take_succ, Bsucc]
    have e := Int.mul_ediv_add_emod (w + rd a (n : Int) + rd b (n : Int)) 4294967296
    generalize (w + rd a (n : Int) + rd b (n : Int)) / 4294967296 = q at *
    generalize (w + rd a (n : Int) + rd b (n : Int)) % 4294967296 = r at *
    have e : r = w + rd a (n : Int) + rd b (n : Int) - 4294967296 * q := by omega
    subst e
    grind
theorem sum_half {a b : List Int} (ha : Lim a) (hb : Lim b) (hab : b.length ≤ a.length) (hm : a.length ≤ 1000) (k : Nat) (hk : 3000 ≤ k) : nat_sum_half.f k a b = some (nl (vl a + vl b)) := by
  unfold nat_sum_half.f
  rw [nat_up (by omega), if_pos (by omega), Int.toNat_natCast, if_pos (by omega)]
  exact sum_l ha hb (by omega) hab a.length k 0 _ 0 (by omega) (by omega) (by simp) (Lim.zeros _) (fun p _ => rd_zeros _ p) (by omega) (by omega) (by rw [vl_zeros]; simp [vl])
theorem sum_b {a b : List Int} (ha : Lim a) (hb : Lim b) (hma : a.length ≤ 1000) (hmb : b.length ≤ 1000) (k : Nat) (hk : 3000 ≤ k) : nat_sum.f k a b = some (nl (vl a + vl b)) := by
  unfold nat_sum.f
  by_cases c : a.length < b.length
  · rw [if_pos c, sum_half hb ha (by omega) hmb k hk, Int.add_comm]
  · rw [if_neg c, sum_half ha hb (by omega) hma k hk]
/-- The sums from the left, refused where one is too long. -/
def sF : Int → List (List Int) → List Int × Int
  | s, [] => (nl s, 0)
  | s, l :: ls => if (nl (s + vl l)).length > 256 then ([], 11) else sF (s + vl l) ls
def pF : Int → List (List Int) → List Int × Int
  | s, [] => (nl s, 0)
  | s, l :: ls => if (nl (s * vl l)).length > 256 then ([], 11) else pF (s * vl l) ls
/-- All may be. -/
def Rs (ls : List (List Int)) : Prop := ∀ l ∈ ls, Lim l ∧ Can l ∧ l.length ≤ 256
theorem Rs.of {ls : List (List Int)} (h : Lims ls) (c : ls.all rb = true) : Rs ls := fun l hl => ⟨h l hl, ((rb_iff (h l hl)).1 (List.all_eq_true.1 c l hl)).2, ((rb_iff (h l hl)).1 (List.all_eq_true.1 c l hl)).1⟩
theorem adds_l {ls : List (List Int)} (h : Rs ls) (hm : ls.length < 1000000) (j : Nat) (hj : 4000 ≤ j) : ∀ (d k n : Nat) (s : Int), n + d = ls.length → j + d < k → 0 ≤ s → (nl s).length ≤ 256 →
    nat_fold_32_with_nat_sum.l0 k (nl s) ls (ls.length : Int) (n : Int) = some (sF s (ls.drop n)) ∧ drawlotref10_Add.l0 k ls (nl s) (n : Int) = some (sF s (ls.drop n)) := by
  intro d
  induction d with
  | zero =>
    intro k n s hn hk hs hl
    obtain ⟨k, rfl⟩ : ∃ m, k = m + 1 := ⟨k - 1, by omega⟩
    simp only [nat_fold_32_with_nat_sum.l0, drawlotref10_Add.l0]
    rw [if_neg (by omega), if_neg (by omega), List.drop_eq_nil_of_le (by omega)]
    exact ⟨rfl, rfl⟩
  | succ d ih =>
    intro k n s hn hk hs hl
    obtain ⟨k, rfl⟩ : ∃ m, k = m + 1 := ⟨k - 1, by omega⟩
    have hi : n < ls.length := by omega
    obtain ⟨p, q, m⟩ := h _ (List.getElem_mem hi)
    have v := vl_nonneg p
    have e := rsum_p (a := s) (b := vl ls[n]) hs v (by omega) (by rw [nl_vl q]; omega) k (by omega)
    rw [nl_vl q] at e
    simp only [nat_fold_32_with_nat_sum.l0, drawlotref10_Add.l0]
    have I := ih k (n + 1) (s + vl ls[n]) (by omega) (by omega) (by omega)
    refine ⟨?_, ?_⟩
    · rw [if_pos (by omega), if_pos (by omega), if_pos (by omega), rd_L1_get hi, sum_b (Lim_nl s) p (by omega) (by omega) k (by omega), bs, vl_nl hs, nat_up (by omega), dropL hi]
      simp only [sF]
      by_cases c : (nl (s + vl ls[n])).length > 256
      · rw [if_pos (by omega), if_pos c]
      · rw [if_neg (by omega), if_neg c]
        exact (I (by omega)).1
    · rw [if_pos (by omega), if_pos (by omega), rd_L1_get hi, e, bs, nat_up (by omega), dropL hi]
      simp only [sF]
      by_cases c : (nl (s + vl ls[n])).length > 256
      · rw [if_pos (by omega), if_pos c]
      · rw [if_neg (by omega), if_neg c]
        exact (I (by omega)).2
theorem muls_l {ls : List (List Int)} (h : Rs ls) (hm : ls.length < 1000000) (j : Nat) (hj : 300000 ≤ j) : ∀ (d k n : Nat) (s : Int), n + d = ls.length → j + d < k → 0 ≤ s → (nl s).length ≤ 256 →
    nat_fold_32_with_nat_product.l0 k (nl s) ls (ls.length : Int) (n : Int) = some (pF s (ls.drop n)) ∧ drawlotref10_Mul.l0 k ls (nl s) (n : Int) = some (pF s (ls.drop n)) := by
  intro d
  induction d with
  | zero =>
    intro k n s hn hk hs hl
    obtain ⟨k, rfl⟩ : ∃ m, k = m + 1 := ⟨k - 1, by omega⟩
    simp only [nat_fold_32_with_nat_product.l0, drawlotref10_Mul.l0]
    rw [if_neg (by omega), if_neg (by omega), List.drop_eq_nil_of_le (by omega)]
    exact ⟨rfl, rfl⟩
  | succ d ih =>
    intro k n s hn hk hs hl
    obtain ⟨k, rfl⟩ : ∃ m, k = m + 1 := ⟨k - 1, by omega⟩
    have hi : n < ls.length := by omega
    obtain ⟨p, q, m⟩ := h _ (List.getElem_mem hi)
    have v := vl_nonneg p
    have e1 := prod_p (a := s) (b := vl ls[n]) hs v (by omega) (by rw [nl_vl q]; omega) k (by omega)
    have e2 := times_p (a := s) (b := vl ls[n]) hs v (by omega) (by rw [nl_vl q]; omega) k (by omega)
    rw [nl_vl q] at e1 e2
    simp only [nat_fold_32_with_nat_product.l0, drawlotref10_Mul.l0]
    have I := ih k (n + 1) (s * vl ls[n]) (by omega) (by omega) (Int.mul_nonneg hs v)
    refine ⟨?_, ?_⟩
    · rw [if_pos (by omega), if_pos (by omega), if_pos (by omega), rd_L1_get hi, e1, bs, nat_up (by omega), dropL hi]
      simp only [pF]
      by_cases c : (nl (s * vl ls[n])).length > 256
      · rw [if_pos (by omega), if_pos c]
      · rw [if_neg (by omega), if_neg c]
        exact (I (by omega)).1
    · rw [if_pos (by omega), if_pos (by omega), rd_L1_get hi, e2, bs, nat_up (by omega), dropL hi]
      simp only [pF]
      by_cases c : (nl (s * vl ls[n])).length > 256
      · rw [if_pos (by omega), if_pos c]
      · rw [if_neg (by omega), if_neg c]
        exact (I (by omega)).2
def addF (ls : List (List Int)) : List Int × Int := if ls.all rb then sF 0 ls else ([], 1)
def mulF (ls : List (List Int)) : List Int × Int := if ls.all rb then pF 1 ls else ([], 1)
theorem add_b {ls : List (List Int)} (h : Lims ls) (hm : ls.length < 1000) (k : Nat) (hk : 6000 ≤ k) : nat_Add.f k ls = some (addF ls) ∧ drawlotref10_Add.f k ls = some (addF ls) := by
  unfold nat_Add.f nat_fold_32_with_nat_sum.f drawlotref10_Add.f addF
  rw [rights_b h (by omega) k (by omega), bs, rall_b h (by omega) k (by omega), bs]
  by_cases c : ls.all rb = true
  · have := adds_l (Rs.of h c) (by omega) 4000 (Nat.le_refl _) ls.length k 0 0 (by omega) (by omega) (Int.le_refl _) (by rw [nl_zero]; decide)
    rw [nl_zero, List.drop_zero, show ((0 : Nat) : Int) = 0 from rfl] at this
    rw [if_pos c, if_pos c, if_pos c, this.1, bs, this.2]
    exact ⟨rfl, rfl⟩
  · rw [if_neg c, if_neg c, if_neg c, bs]
    exact ⟨rfl, rfl⟩
theorem mul_b {ls : List (List Int)} (h : Lims ls) (hm : ls.length < 1000) (k : Nat) (hk : 302000 ≤ k) : nat_Mul.f k ls = some (mulF ls) ∧ drawlotref10_Mul.f k ls = some (mulF ls) := by
  unfold nat_Mul.f nat_fold_32_with_nat_product.f drawlotref10_Mul.f mulF
  rw [of_p (by omega) (by omega) k (by omega), bs, rights_b h (by omega) k (by omega), bs, rall_b h (by omega) k (by omega), bs]
  by_cases c : ls.all rb = true
  · have := muls_l (Rs.of h c) (by omega) 300000 (Nat.le_refl _) ls.length k 0 1 (by omega) (by omega) (by omega) (by rw [nl_one]; decide)
    rw [List.drop_zero, show ((0 : Nat) : Int) = 0 from rfl] at this
    rw [if_pos c, if_pos c, if_pos c, this.1, bs, ← nl_one, this.2]
    exact ⟨rfl, rfl⟩
  · rw [if_neg c, if_neg c, if_neg c, bs]
    exact ⟨rfl, rfl⟩
def divF (a : List Int) (d : Int) : List Int × Int × Int := if rb a = true ∧ d ≠ 0 ∧ d < 9223372036854775808 then (nl (vl a / d), vl a % d, 0) else ([], 0, 1)
theorem div_b {a : List Int} (ha : Lim a) {D : Int} (h0 : 0 ≤ D) (k : Nat) (hk : 12000 ≤ k) : nat_Div.f k a D = some (divF a D) := by
  unfold divF
  by_cases c : rb a = true ∧ D ≠ 0 ∧ D < 9223372036854775808
  · rw [if_pos c]
    have := div_p (a := vl a) (vl_nonneg ha) (by rw [can_eq c.1]; exact can_len c.1) (show 0 < D by omega) c.2.2 k hk
    rw [can_eq c.1] at this
    exact this
  · rw [if_neg c]
    unfold nat_Div.f
    obtain ⟨k, rfl⟩ : ∃ m, k = m + 1 := ⟨k - 1, by omega⟩
    rw [right_b ha _ (by omega), bs]
    simp only [nat_Div.j0]
    by_cases d : rb a = true
    · rw [d, if_pos rfl]
      by_cases e : D = 0
      · rw [if_pos e, if_pos trivial]
      · rw [if_neg e, if_pos (decide_eq_true (Decidable.byContradiction fun g => c ⟨d, e, by omega⟩))]
    · rw [if_neg d, if_pos trivial]
theorem same_l (a b : List Int) (hab : a.length = b.length) (hm : a.length < 4611686018427387904) : ∀ (d k n : Nat), n + d = a.length → d < k → drawlotref10_Same.l0 k a b (n : Int) = some (decide (a.drop n = b.drop n)) ∧ api_Nat_uint32.l0 k a b (a.length : Int) (n : Int) = some (decide (a.drop n = b.drop n)) := by
  intro d
  induction d with
  | zero =>
    intro k n hn hk
    obtain ⟨k, rfl⟩ : ∃ m, k = m + 1 := ⟨k - 1, by omega⟩
    simp only [drawlotref10_Same.l0, api_Nat_uint32.l0]
    rw [if_neg (by omega), if_neg (by omega), List.drop_eq_nil_of_le (by omega), List.drop_eq_nil_of_le (by omega)]
    exact ⟨rfl, rfl⟩
  | succ d ih =>
    intro k n hn hk
    obtain ⟨k, rfl⟩ : ∃ m, k = m + 1 := ⟨k - 1, by omega⟩
    have I := ih k (n + 1) (by omega) (by omega)
    have e : decide (a.drop n = b.drop n) = if rd a (n : Int) = rd b (n : Int) then decide (a.drop (n + 1) = b.drop (n + 1)) else false := by
      rw [drop_step (l := a) (by omega), drop_step (l := b) (by omega)]
      by_cases c : rd a (n : Int) = rd b (n : Int)
      · rw [if_pos c, c]; simp only [List.cons.injEq, true_and]
      · rw [if_neg c]; simp only [List.cons.injEq, c, false_and, decide_false]
    simp only [drawlotref10_Same.l0, api_Nat_uint32.l0]
    rw [e]
    refine ⟨?_, ?_⟩
    · rw [if_pos (by omega), if_pos (by omega), if_pos (by omega), nat_up (by omega)]
      by_cases c : rd a (n : Int) = rd b (n : Int)
      · rw [if_pos c, if_pos c]; exact I.1
      · rw [if_neg c, if_neg c]
    · rw [if_pos (by omega), if_pos (by omega), if_pos (by omega), if_pos (by omega), nat_up (by omega)]
      by_cases c : rd a (n : Int) = rd b (n : Int)
      · rw [if_pos c, if_pos c]; exact I.2
      · rw [if_neg c, if_neg c]
theorem same_b (a b : List Int) (hm : a.length < 1000000) (k : Nat) (hk : a.length < k) : nat_Same.f k a b = some (decide (a = b)) ∧ drawlotref10_Same.f k a b = some (decide (a = b)) := by
  unfold nat_Same.f api_Nat_uint32.f drawlotref10_Same.f
  by_cases c : a.length = b.length
  · have := same_l a b c (by omega) a.length k 0 (by omega) hk
    rw [List.drop_zero, List.drop_zero, show ((0 : Nat) : Int) = 0 from rfl] at this
    rw [if_pos (by omega), this.2, bs, if_pos (by omega), this.1]
    exact ⟨rfl, rfl⟩
  · have : ¬ a = b := fun e => c (by rw [e])
    rw [if_neg (by omega), bs, if_neg (by omega), decide_eq_false this]
    exact ⟨rfl, rfl⟩
end Go.Proofs.YtgfkclgpphnjfaaDoor.Lm
