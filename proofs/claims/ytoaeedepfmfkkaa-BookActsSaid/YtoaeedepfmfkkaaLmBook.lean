/- What the functions of book answer, in plain Lean. No conditions. -/
import Derived.Test.YtoaeedepfmfkkaaPBx2
import Derived.Test.YtoaeedepfmfkkaaPBx3
import Derived.Test.YtoaeedepfmfkkaaPBx1
import Derived.Test.YtoaeedepfmfkkaaLmSafe
namespace Go.Proofs.Ytoaeedepfmfkkaa.Lm
open Go.RowKit Go.Proofs.YtoaeedepfmfkkaaW.PrintWords Go.Proofs.Ytoaeedepfmfkkaa.PB

instance decS27 : DecidableEq S27 := fun x y => decidable_of_iff (x.f0 = y.f0 ∧ x.f1 = y.f1 ∧ x.f2 = y.f2) ⟨fun h => by rcases x with ⟨a, b, c⟩; rcases y with ⟨d, e, f⟩; obtain ⟨rfl, rfl, rfl⟩ := h; rfl, fun h => by subst h; exact ⟨rfl, rfl, rfl⟩⟩
/-- Validators that may come in: keys of 32 bytes, stakes of 64 bits. -/
def VW (x : S27) : Prop := x.f0.length = 32 ∧ (0 ≤ x.f1 ∧ x.f1 < 18446744073709551616) ∧ (0 ≤ x.f2 ∧ x.f2 < 18446744073709551616)
def VL (l : List S27) : Prop := ∀ x ∈ l, VW x
def stk (l : List S27) : List Int := l.map (·.f1)
def nxt (l : List S27) : List Int := l.map (·.f2)
theorem VL.stk {l : List S27} (h : VL l) : U64 (stk l) := fun x hx => by
  obtain ⟨v, hv, rfl⟩ := List.mem_map.1 hx
  exact (h v hv).2.1
theorem VL.nxt {l : List S27} (h : VL l) : U64 (nxt l) := fun x hx => by
  obtain ⟨v, hv, rfl⟩ := List.mem_map.1 hx
  exact (h v hv).2.2
theorem rd27_nat (l : List S27) (n : Nat) (h : n < l.length) : rd_T27 l (n : Int) = l[n] := by simp [rd_T27, List.getD, h]
theorem rd27_VW {l : List S27} (hl : VL l) {n : Nat} (h : n < l.length) : VW (rd_T27 l (n : Int)) := by rw [rd27_nat l n h]; exact hl _ (List.getElem_mem h)
theorem drop27 {l : List S27} {n : Nat} (h : n < l.length) : l.drop n = rd_T27 l (n : Int) :: l.drop (n + 1) := by
  rw [rd27_nat l n h]; exact List.drop_eq_getElem_cons h
theorem eqb32 {a b : List Int} (ha : a.length = 32) (hb : b.length = 32) : Ar.eqb 32 a b = decide (a = b) := by
  unfold Ar.eqb
  rw [Ar.fit_id ha, Ar.fit_id hb]
  by_cases h : a = b <;> simp [h]
theorem eqS27_is {x y : S27} (hx : VW x) (hy : VW y) : eqS27 x y = decide (x = y) := by
  rcases x with ⟨a, b, c⟩
  rcases y with ⟨d, e, f⟩
  unfold eqS27
  rw [eqb32 hx.1 hy.1]
  by_cases h1 : a = d <;> by_cases h2 : b = e <;> by_cases h3 : c = f <;> simp [h1, h2, h3]

/-! stakes, nexts -/
theorem colS_l (l : List S27) (hm : l.length ≤ 100000) : ∀ (d k : Nat) (acc : List Int) (n : Nat), n + d = l.length → d < k → acc.length ≤ n →
    book_column_55_with_book_Stakes_1.l0 k acc l (l.length : Int) (n : Int) = some (acc ++ stk (l.drop n)) := by
  intro d
  induction d with
  | zero =>
    intro k acc n hn hk ha
    obtain ⟨k, rfl⟩ : ∃ m, k = m + 1 := ⟨k - 1, by omega⟩
    simp only [book_column_55_with_book_Stakes_1.l0]
    rw [if_neg (by omega), List.drop_eq_nil_of_le (by omega)]
    simp [stk]
  | succ d ih =>
    intro k acc n hn hk ha
    obtain ⟨k, rfl⟩ : ∃ m, k = m + 1 := ⟨k - 1, by omega⟩
    simp only [book_column_55_with_book_Stakes_1.l0]
    rw [if_pos (by omega), if_pos (by omega), if_pos (by omega)]
    simp only [book_Stakes_1.f, bs]
    rw [if_pos (by omega), w64_id (by omega) (by omega), show (n : Int) + 1 = ((n + 1 : Nat) : Int) by omega, ih k _ (n + 1) (by omega) (by omega) (by simp; omega), drop27 (by omega : n < l.length)]
    simp [stk]
theorem stakes_ok (k : Nat) (l : List S27) (hm : l.length ≤ 100000) (hk : l.length < k) : book_Stakes.f k l = some (stk l) := by
  unfold book_Stakes.f book_column_55_with_book_Stakes_1.f
  rw [if_pos (by omega), if_pos (by omega)]
  have := colS_l l hm l.length k [] 0 (by omega) hk (by simp)
  simp only [Int.ofNat_zero, List.drop_zero, List.nil_append] at this
  rw [this]; rfl
theorem colN_l (l : List S27) (hm : l.length ≤ 100000) : ∀ (d k : Nat) (acc : List Int) (n : Nat), n + d = l.length → d < k → acc.length ≤ n →
    book_column_55_with_book_nexts_1.l0 k acc l (l.length : Int) (n : Int) = some (acc ++ nxt (l.drop n)) := by
  intro d
  induction d with
  | zero =>
    intro k acc n hn hk ha
    obtain ⟨k, rfl⟩ : ∃ m, k = m + 1 := ⟨k - 1, by omega⟩
    simp only [book_column_55_with_book_nexts_1.l0]
    rw [if_neg (by omega), List.drop_eq_nil_of_le (by omega)]
    simp [nxt]
  | succ d ih =>
    intro k acc n hn hk ha
    obtain ⟨k, rfl⟩ : ∃ m, k = m + 1 := ⟨k - 1, by omega⟩
    simp only [book_column_55_with_book_nexts_1.l0]
    rw [if_pos (by omega), if_pos (by omega), if_pos (by omega)]
    simp only [book_nexts_1.f, bs]
    rw [if_pos (by omega), w64_id (by omega) (by omega), show (n : Int) + 1 = ((n + 1 : Nat) : Int) by omega, ih k _ (n + 1) (by omega) (by omega) (by simp; omega), drop27 (by omega : n < l.length)]
    simp [nxt]
theorem nexts_ok (k : Nat) (l : List S27) (hm : l.length ≤ 100000) (hk : l.length < k) : book_nexts.f k l = some (nxt l) := by
  unfold book_nexts.f book_column_55_with_book_nexts_1.f
  rw [if_pos (by omega), if_pos (by omega)]
  have := colN_l l hm l.length k [] 0 (by omega) hk (by simp)
  simp only [Int.ofNat_zero, List.drop_zero, List.nil_append] at this
  rw [this]; rfl

/-! places -/
/-- The first place of a key, from place i on. -/
def idx (key : List Int) : List S27 → Int → Option Int
  | [], _ => none
  | v :: l, i => if v.f0 = key then some i else idx key l (i + 1)
/-- No key stands twice. -/
def nodup : List S27 → Prop
  | [] => True
  | v :: l => (∀ x ∈ l, x.f0 ≠ v.f0) ∧ nodup l
instance nodupD : (l : List S27) → Decidable (nodup l)
  | [] => isTrue trivial
  | v :: l => by
    unfold nodup
    have := nodupD l
    infer_instance
theorem idx_range (key : List Int) : ∀ (l : List S27) (i j : Int), idx key l i = some j → i ≤ j ∧ j < i + l.length
  | [], i, j, h => by simp [idx] at h
  | v :: l, i, j, h => by
    unfold idx at h
    split at h
    · obtain rfl := Option.some.inj h
      simp only [List.length_cons]; omega
    · have := idx_range key l (i + 1) j h
      simp only [List.length_cons]; omega
theorem idx_none {key : List Int} : ∀ {l : List S27} {i : Int}, idx key l i = none ↔ ∀ x ∈ l, x.f0 ≠ key
  | [], i => by simp [idx]
  | v :: l, i => by
    unfold idx
    split
    · simp_all
    · rw [idx_none (l := l)]; simp_all
def KL (L : List (List Int × Int)) : Prop := ∀ p ∈ L, p.1.length = 32
theorem mfind_app {key : List Int} : ∀ (L M : List (List Int × Int)), Ar.mfind 32 key (L ++ M) = (Ar.mfind 32 key L).or (Ar.mfind 32 key M)
  | [], M => by simp [Ar.mfind]
  | p :: L, M => by
    simp only [List.cons_append, Ar.mfind, mfind_app L M]
    split <;> simp
theorem go_find {key : List Int} (hk : key.length = 32) : ∀ (l : List S27) (i : Int) (L : List (List Int × Int)), VL l → KL L →
    Ar.mfind 32 key (book_places.go l i L) = (Ar.mfind 32 key L).or (idx key l i)
  | [], i, L, _, _ => by simp [book_places.go, idx]
  | v :: l, i, L, hl, hL => by
    have hv := hl v (by simp)
    have hl' : VL l := fun x hx => hl x (by simp [hx])
    unfold book_places.go idx
    split
    · rename_i c
      rw [go_find hk l (i + 1) L hl' hL]
      split
      · rename_i e
        rw [e] at c
        cases h : Ar.mfind 32 key L with
        | none => rw [h] at c; simp at c
        | some a => simp
      · rfl
    · rename_i c
      have hL' : KL (L ++ [(v.f0, i)]) := fun p hp => by
        rcases List.mem_append.1 hp with h | h
        · exact hL p h
        · simp only [List.mem_singleton] at h; subst h; exact hv.1
      rw [go_find hk l (i + 1) _ hl' hL', mfind_app]
      simp only [Ar.mfind, eqb32 hk hv.1, decide_eq_true_eq]
      by_cases e : v.f0 = key
      · rw [if_pos e.symm, if_pos e]
        cases Ar.mfind 32 key L <;> simp
      · rw [if_neg (fun h => e h.symm), if_neg e]
        cases Ar.mfind 32 key L <;> simp
theorem places_find {key : List Int} (hk : key.length = 32) {l : List S27} (hl : VL l) : Ar.mfind 32 key (book_places.m l) = idx key l 0 := by
  unfold book_places.m
  rw [go_find hk l 0 [] hl (fun p hp => by cases hp)]
  simp [Ar.mfind]
theorem go_len : ∀ (l : List S27) (i : Int) (L : List (List Int × Int)), VL l → KL L →
    (book_places.go l i L).length ≤ L.length + l.length ∧ ((book_places.go l i L).length = L.length + l.length ↔ nodup l ∧ ∀ x ∈ l, Ar.mfind 32 x.f0 L = none)
  | [], i, L, _, _ => by simp [book_places.go, nodup]
  | v :: l, i, L, hl, hL => by
    have hv := hl v (by simp)
    have hl' : VL l := fun x hx => hl x (by simp [hx])
    unfold book_places.go
    split
    · rename_i c
      obtain ⟨h1, _⟩ := go_len l (i + 1) L hl' hL
      refine ⟨by simp only [List.length_cons]; omega, fun h => ?_, fun h => ?_⟩
      · simp only [List.length_cons] at h; omega
      · have := h.2 v (by simp)
        rw [this] at c
        simp at c
    · rename_i c
      have hL' : KL (L ++ [(v.f0, i)]) := fun p hp => by
        rcases List.mem_append.1 hp with h | h
        · exact hL p h
        · simp only [List.mem_singleton] at h; subst h; exact hv.1
      obtain ⟨h1, h2⟩ := go_len l (i + 1) _ hl' hL'
      simp only [List.length_append, List.length_cons, List.length_nil] at h1 h2 ⊢
      refine ⟨by omega, ?_⟩
      rw [show L.length + (l.length + 1) = L.length + (0 + 1) + l.length by omega, h2]
      have c' : Ar.mfind 32 v.f0 L = none := by simpa using c
      have key : ∀ x ∈ l, (Ar.mfind 32 x.f0 (L ++ [(v.f0, i)]) = none ↔ Ar.mfind 32 x.f0 L = none ∧ x.f0 ≠ v.f0) := fun x hx => by
        rw [mfind_app]
        simp only [Ar.mfind, eqb32 (hl' x hx).1 hv.1, decide_eq_true_eq]
        by_cases e : x.f0 = v.f0
        · rw [if_pos e]; cases Ar.mfind 32 x.f0 L <;> simp [e]
        · rw [if_neg e]; cases Ar.mfind 32 x.f0 L <;> simp [e]
      constructor
      · rintro ⟨hn, ha⟩
        refine ⟨⟨fun x hx => ((key x hx).1 (ha x hx)).2, hn⟩, fun x hx => ?_⟩
        rcases List.mem_cons.1 hx with rfl | hx
        · exact c'
        · exact ((key x hx).1 (ha x hx)).1
      · rintro ⟨⟨hn1, hn2⟩, ha⟩
        exact ⟨hn2, fun x hx => (key x hx).2 ⟨ha x (by simp [hx]), hn1 x hx⟩⟩
theorem places_len {l : List S27} (hl : VL l) : (book_places.m l).length = l.length ↔ nodup l := by
  obtain ⟨_, h⟩ := go_len l 0 [] hl (fun p hp => by cases hp)
  unfold book_places.m
  simp only [List.length_nil, Nat.zero_add] at h
  rw [h]
  exact ⟨fun h => h.1, fun h => ⟨h, fun x _ => rfl⟩⟩

/-! may they be? -/
def RT (l : List S27) : Prop := (stk l).sum < 9223372036854775808 ∧ (nxt l).sum < 9223372036854775808 ∧ nodup l
instance (l : List S27) : Decidable (RT l) := by unfold RT; infer_instance
theorem right_ok (k : Nat) (l : List S27) (hl : VL l) (hm : l.length ≤ 100000) (hk : l.length < k) : book_Right.f k l = some (decide (RT l)) := by
  have e1 : (stk l).length = l.length := by simp [stk]
  have e2 : (nxt l).length = l.length := by simp [nxt]
  unfold book_Right.f
  rw [stakes_ok k l hm hk, bs, total_ok k (stk l) hl.stk (by omega) (by omega), bs, nexts_ok k l hm hk, bs, total_ok k (nxt l) hl.nxt (by omega) (by omega), bs]
  unfold RT
  by_cases h1 : (stk l).sum < 9223372036854775808
  · by_cases h2 : (nxt l).sum < 9223372036854775808
    · simp only [h1, h2, if_true, true_and]
      rw [if_pos (by omega)]
      have := places_len hl
      by_cases h3 : nodup l
      · rw [this.2 h3]; simp [h3]
      · have h4 : (book_places.m l).length ≠ l.length := fun e => h3 (this.1 e)
        simp [h3]; omega
    · simp [h1, h2]
  · simp [h1]

/-! the others -/
theorem val_ok (l : List S27) (hm : l.length ≤ 100000) : api_Validator_54.f l = some l := by
  unfold api_Validator_54.f
  rw [bs]
  simp only [List.length_nil, Nat.zero_add, List.nil_append]
  rw [if_pos (by omega)]
def put2 (l : List S27) (i : Int) (n : Int) : List S27 := l.set i.toNat ⟨(rd_T27 l i).f0, (rd_T27 l i).f1, n⟩
theorem with_ok (l : List S27) (hm : l.length ≤ 100000) (i n : Int) (h0 : 0 ≤ i) (h1 : i < (l.length : Int)) : book_with.f l i n = some (put2 l i n) := by
  unfold book_with.f
  rw [val_ok l hm, bs, if_pos h0, if_pos h1]
  rfl
theorem nxt_le {l : List S27} (hl : VL l) {i : Int} (h0 : 0 ≤ i) (h1 : i < (l.length : Int)) : (rd_T27 l i).f2 ≤ (nxt l).sum := by
  obtain ⟨n, rfl⟩ := Int.eq_ofNat_of_zero_le h0
  have hn : n < (nxt l).length := by simp [nxt]; omega
  have h := sum_take_drop (nxt l) n
  rw [sum_drop_step hn] at h
  have a := sum_nonneg (hl.nxt.take n)
  have b := sum_nonneg (hl.nxt.drop (n + 1))
  have e : rd (nxt l) (n : Int) = (rd_T27 l (n : Int)).f2 := by
    rw [rd27_nat l n (by omega), rd_nat]
    simp [nxt, List.getD, show n < l.length by omega]
  omega
def dep (l : List S27) (key : List Int) (a most : Int) : List S27 × Int × Int :=
  if RT l ∧ a ≠ 0 ∧ 1 ≤ most ∧ most ≤ 1048576 then
    match idx key l 0 with
    | some i => if (nxt l).sum + a < 9223372036854775808 then (put2 l i ((rd_T27 l i).f2 + a), i, 0) else ([], 0, 11)
    | none => if (l.length : Int) ≥ most then ([], 0, 4) else if (nxt l).sum + a < 9223372036854775808 then (l ++ [⟨key, 0, a⟩], l.length, 0) else ([], 0, 11)
  else ([], 0, 1)
theorem deposit_ok (k : Nat) (l : List S27) (hl : VL l) (hm : l.length ≤ 10000) (hk : l.length < k) (key : List Int) (hkey : key.length = 32) (a most : Int) (ha : 0 ≤ a ∧ a < 18446744073709551616) :
    book_Deposit.f k l key a most = some (dep l key a most) := by
  have e2 : (nxt l).length = l.length := by simp [nxt]
  unfold book_Deposit.f dep
  rw [right_ok k l hl (by omega) hk, bs, places_find hkey hl]
  by_cases hR : RT l
  · have hs := hR.2.1
    have hs0 := sum_nonneg hl.nxt
    simp only [hR, decide_true, if_true, true_and]
    by_cases c1 : a = 0
    · rw [if_pos c1, if_neg (by simp [c1])]
    rw [if_neg c1]
    by_cases c2 : most < 1
    · rw [if_pos c2, if_neg (by omega)]
    rw [if_neg c2]
    by_cases c3 : most > 1048576
    · rw [if_pos c3, if_neg (by omega)]
    rw [if_neg c3, if_pos (show a ≠ 0 ∧ 1 ≤ most ∧ most ≤ 1048576 from ⟨c1, by omega, by omega⟩)]
    have hn := nexts_ok k l (by omega) hk
    have ht := total_ok k (nxt l) hl.nxt (by omega) (by omega)
    rw [if_pos hs] at ht
    have hA := add_ok (a := (nxt l).sum) (b := a) (by omega) ha
    cases hi : idx key l 0 with
    | some i =>
      have hr := idx_range key l 0 i hi
      have hf := nxt_le hl (i := i) (by omega) (by omega)
      have hf0 : 0 ≤ (rd_T27 l i).f2 := by
        obtain ⟨n, rfl⟩ := Int.eq_ofNat_of_zero_le hr.1
        exact (rd27_VW hl (by omega)).2.2.1
      simp only [Option.isSome_some, if_true, Option.getD_some, ge_iff_le]
      rw [ite_self, hn, bs, ht, bs, hA, bs]
      by_cases c4 : (nxt l).sum + a < 9223372036854775808
      · simp only [c4, if_true]
        rw [u64w_id (by omega) (by omega), with_ok l (by omega) i _ (by omega) (by omega), if_pos (by omega), if_pos (by omega), bs]
      · simp [c4]
    | none =>
      simp only [Option.isSome_none]
      rw [if_neg (by simp)]
      by_cases c5 : (l.length : Int) ≥ most
      · rw [if_pos c5, if_pos c5]
      · rw [if_neg c5, if_neg c5, hn, bs, ht, bs, hA, bs]
        by_cases c4 : (nxt l).sum + a < 9223372036854775808
        · simp only [c4, if_true]
          have eg : book_grown.f l key = some (l ++ [⟨key, 0, 0⟩]) := by unfold book_grown.f; rw [if_pos (by omega)]
          have er : rd_T27 (l ++ [⟨key, 0, 0⟩]) (l.length : Int) = ⟨key, 0, 0⟩ := by rw [rd27_nat _ _ (by simp)]; simp
          rw [eg, bs, if_pos (by omega), if_pos (by simp; omega), er]
          simp only [Int.zero_add]
          rw [u64w_id (by omega) (by omega), with_ok _ (by simp; omega) _ _ (by omega) (by simp; omega), bs]
          unfold put2
          rw [er]
          simp
        · simp [c4]
  · simp [hR]
theorem there_ok (k : Nat) (l : List S27) (hl : VL l) (hm : l.length ≤ 100000) (hk : l.length < k) (who : Int) : book_there.f k l who = some (if RT l then (if 0 ≤ who ∧ who < (l.length : Int) then 0 else 5) else 1) := by
  unfold book_there.f
  rw [right_ok k l hl hm hk, bs]
  by_cases hR : RT l
  · simp only [hR, decide_true, if_true]
    by_cases c1 : who < 0
    · rw [if_pos c1, if_neg (by omega)]
    · rw [if_neg c1]
      by_cases c2 : who ≥ (l.length : Int)
      · rw [if_pos c2, if_neg (by omega)]
      · rw [if_neg c2, if_pos (by omega)]
  · simp [hR]
def wd (l : List S27) (who a : Int) : List S27 × Int × Int :=
  if RT l ∧ a ≠ 0 then
    if 0 ≤ who ∧ who < (l.length : Int) then
      if a > (rd_T27 l who).f2 then ([], 0, 12) else (put2 l who ((rd_T27 l who).f2 - a), (rd_T27 l who).f2 - a, 0)
    else ([], 0, 5)
  else ([], 0, 1)
theorem withdraw_ok (k : Nat) (l : List S27) (hl : VL l) (hm : l.length ≤ 100000) (hk : l.length < k) (who a : Int) (ha : 0 ≤ a ∧ a < 18446744073709551616) : book_Withdraw.f k l who a = some (wd l who a) := by
  unfold book_Withdraw.f
  rw [there_ok k l hl hm hk, bs]
  by_cases c0 : a = 0
  · rw [if_pos c0]
    unfold wd
    rw [if_neg (by simp [c0])]
  rw [if_neg c0]
  by_cases hR : RT l
  · have ew : wd l who a = if 0 ≤ who ∧ who < (l.length : Int) then (if a > (rd_T27 l who).f2 then ([], 0, 12) else (put2 l who ((rd_T27 l who).f2 - a), (rd_T27 l who).f2 - a, 0)) else ([], 0, 5) := by
      unfold wd
      rw [if_pos (show RT l ∧ a ≠ 0 from ⟨hR, c0⟩)]
    rw [ew, if_pos hR]
    by_cases c1 : 0 ≤ who ∧ who < (l.length : Int)
    · have hf : VW (rd_T27 l who) := by
        obtain ⟨n, rfl⟩ := Int.eq_ofNat_of_zero_le c1.1
        exact rd27_VW hl (by omega)
      have hf2 := hf.2.2
      rw [if_pos c1, if_pos c1, if_pos rfl, if_pos c1.1, if_pos c1.2]
      by_cases c2 : a > (rd_T27 l who).f2
      · rw [if_pos c2, if_pos c2]
      · rw [if_neg c2, if_neg c2, u64w_id (by omega) (by omega), with_ok l hm who _ c1.1 c1.2, bs]
    · rw [if_neg c1, if_neg c1, if_neg (by decide)]
  · unfold wd
    rw [if_neg hR, if_neg (show ¬ ((1 : Int) = 0) by decide), if_neg (show ¬ (RT l ∧ a ≠ 0) from fun h => hR h.1)]
def sl (l : List S27) (who a : Int) : List S27 × Int × Int :=
  if RT l then
    if 0 ≤ who ∧ who < (l.length : Int) then (put2 l who ((rd_T27 l who).f2 - mn a (rd_T27 l who).f2), mn a (rd_T27 l who).f2, 0)
    else ([], 0, 5)
  else ([], 0, 1)
theorem slash_ok (k : Nat) (l : List S27) (hl : VL l) (hm : l.length ≤ 100000) (hk : l.length < k) (who a : Int) (ha : 0 ≤ a ∧ a < 18446744073709551616) : book_Slash.f k l who a = some (sl l who a) := by
  unfold book_Slash.f sl
  rw [there_ok k l hl hm hk, bs]
  by_cases hR : RT l
  · rw [if_pos hR, if_pos hR]
    by_cases c1 : 0 ≤ who ∧ who < (l.length : Int)
    · have hf : VW (rd_T27 l who) := by
        obtain ⟨n, rfl⟩ := Int.eq_ofNat_of_zero_le c1.1
        exact rd27_VW hl (by omega)
      have hf2 := hf.2.2
      have hmn : 0 ≤ mn a (rd_T27 l who).f2 ∧ mn a (rd_T27 l who).f2 ≤ (rd_T27 l who).f2 := by unfold mn; split <;> omega
      rw [if_pos c1, if_pos c1, if_pos rfl, if_pos c1.1, if_pos c1.2, u64w_id (by omega) (by omega), with_ok l hm who _ c1.1 c1.2, bs]
    · rw [if_neg c1, if_neg c1, if_neg (by decide)]
  · rw [if_neg hR, if_neg hR, if_neg (by decide)]
def actv (l : List S27) : List S27 := l.map fun v => ⟨v.f0, v.f2, v.f2⟩
theorem act_l (m : Nat) (hm : m ≤ 100000) : ∀ (d k : Nat) (a b : List S27), a.length + b.length = m → b.length = d → d < k → book_Activate.l0 k (a ++ b) (m : Int) (a.length : Int) = some (a ++ actv b) := by
  intro d
  induction d with
  | zero =>
    intro k a b hn hb hk
    obtain ⟨k, rfl⟩ : ∃ m, k = m + 1 := ⟨k - 1, by omega⟩
    obtain rfl : b = [] := List.eq_nil_of_length_eq_zero hb
    simp only [book_Activate.l0]
    rw [if_neg (by simp at hn; omega)]
    rfl
  | succ d ih =>
    intro k a b hn hb hk
    obtain ⟨k, rfl⟩ : ∃ m, k = m + 1 := ⟨k - 1, by omega⟩
    match b, hb with
    | v :: b, hb =>
      simp only [List.length_cons] at hb hn
      simp only [book_Activate.l0]
      have hr : rd_T27 (a ++ v :: b) (a.length : Int) = v := by rw [rd27_nat _ _ (by simp)]; simp
      rw [if_pos (by omega), if_pos (by omega), if_pos (by simp; omega), hr, Int.toNat_natCast, List.set_append_right _ _ (by omega), Nat.sub_self, List.set_cons_zero, w64_id (by omega) (by omega)]
      have := ih k (a ++ [⟨v.f0, v.f2, v.f2⟩]) b (by simp; omega) (by omega) (by omega)
      simp only [List.append_assoc, List.cons_append, List.nil_append, List.length_append, List.length_cons, List.length_nil] at this
      rw [show (a.length : Int) + 1 = ((a.length + (0 + 1) : Nat) : Int) by omega, this]
      simp [actv]
theorem activate_ok (k : Nat) (l : List S27) (hm : l.length ≤ 100000) (hk : l.length < k) : book_Activate.f k l = some (actv l) := by
  unfold book_Activate.f
  rw [val_ok l hm, bs]
  have := act_l l.length hm l.length k [] l (by simp) rfl hk
  simpa using this
theorem find_l (key : List Int) (hkey : key.length = 32) (l : List S27) (hl : VL l) (hm : l.length ≤ 100000) : ∀ (d k n : Nat), n + d = l.length → d < k → book_Find.l0 k l key (n : Int) = some ((idx key (l.drop n) (n : Int)).getD (-1)) := by
  intro d
  induction d with
  | zero =>
    intro k n hn hk
    obtain ⟨k, rfl⟩ : ∃ m, k = m + 1 := ⟨k - 1, by omega⟩
    simp only [book_Find.l0]
    rw [if_neg (by omega), List.drop_eq_nil_of_le (by omega)]
    rfl
  | succ d ih =>
    intro k n hn hk
    obtain ⟨k, rfl⟩ : ∃ m, k = m + 1 := ⟨k - 1, by omega⟩
    simp only [book_Find.l0]
    rw [if_pos (by omega), if_pos (by omega), eqb32 (rd27_VW hl (by omega)).1 hkey, drop27 (by omega : n < l.length), w64_id (by omega) (by omega), show (n : Int) + 1 = ((n + 1 : Nat) : Int) by omega, ih k (n + 1) (by omega) (by omega)]
    simp only [idx, decide_eq_true_eq]
    split
    · rfl
    · rw [show (n : Int) + 1 = ((n + 1 : Nat) : Int) by omega]
def fnd (l : List S27) (key : List Int) : Int × Bool := ((idx key l 0).getD 0, (idx key l 0).isSome)
theorem find_ok (k : Nat) (key : List Int) (hkey : key.length = 32) (l : List S27) (hl : VL l) (hm : l.length ≤ 100000) (hk : l.length < k) : book_Find.f k l key = some (fnd l key) := by
  unfold book_Find.f fnd
  have := find_l key hkey l hl hm l.length k 0 (by omega) hk
  simp only [List.drop_zero, Int.ofNat_zero] at this
  rw [this, bs]
  cases h : idx key l 0 with
  | none => simp [mx]
  | some i =>
    have := idx_range key l 0 i h
    simp only [Option.getD_some, Option.isSome_some, mx]
    split
    · simp; omega
    · simp; omega
theorem same27_l : ∀ (d k : Nat) (a b : List S27) (n : Nat), VL a → VL b → n + d = a.length → a.length = b.length → d < k → a.length ≤ 100000 →
    api_Validator_57.l0 k a b (a.length : Int) (n : Int) = some (decide (a.drop n = b.drop n)) := by
  intro d
  induction d with
  | zero =>
    intro k a b n hA hB hn hl hk hm
    obtain ⟨k, rfl⟩ : ∃ m, k = m + 1 := ⟨k - 1, by omega⟩
    simp only [api_Validator_57.l0]
    rw [if_neg (by omega), List.drop_eq_nil_of_le (by omega), List.drop_eq_nil_of_le (by omega)]
    simp
  | succ d ih =>
    intro k a b n hA hB hn hl hk hm
    obtain ⟨k, rfl⟩ : ∃ m, k = m + 1 := ⟨k - 1, by omega⟩
    simp only [api_Validator_57.l0]
    rw [if_pos (by omega), if_pos (by omega), if_pos (by omega), if_pos (by omega), eqS27_is (rd27_VW hA (by omega)) (rd27_VW hB (by omega)), w64_id (by omega) (by omega), show (n : Int) + 1 = ((n + 1 : Nat) : Int) by omega, ih k a b (n + 1) hA hB (by omega) hl (by omega) hm,
      drop27 (l := a) (by omega : n < a.length), drop27 (l := b) (by omega : n < b.length)]
    by_cases h : rd_T27 a (n : Int) = rd_T27 b (n : Int) <;> simp [h]
theorem bsame_ok (k : Nat) (a b : List S27) (hA : VL a) (hB : VL b) (hk : a.length < k) (hm : a.length ≤ 100000) : book_Same.f k a b = some (decide (a = b)) := by
  unfold book_Same.f api_Validator_57.f
  by_cases h : a.length = b.length
  · rw [if_pos (by omega)]
    have := same27_l a.length k a b 0 hA hB (by omega) h hk hm
    simp only [List.drop_zero, Int.ofNat_zero] at this
    rw [this]; rfl
  · rw [if_neg (by omega), bs]
    have : a ≠ b := fun e => h (by rw [e])
    simp [this]
end Go.Proofs.Ytoaeedepfmfkkaa.Lm
