/- What alias.Build answers, in plain Lean: the pairing of small and large places. No conditions. -/
import Derived.Test.YtbafkkbbjacekaaPBx3
import Derived.Test.YtbafkkbbjacekaaLmAlias
namespace Go.Proofs.Ytbafkkbbjacekaa.Lm
open Go.RowKit Go.Proofs.YtbafkkbbjacekaaW.PrintWords Go.Proofs.Ytbafkkbbjacekaa.PB

/-- The pairing, d steps of it at the most: T, what each place has, the cells, the small and the large places. -/
def fin : Nat → Int → List Int → List S62 → List Int → List Int → List S62
  | 0, _, _, cl, _, _ => cl
  | d + 1, T, hs, cl, sm, lg => if 0 < sm.length ∧ 0 < lg.length then
      (let i := rd sm ((sm.length - 1 : Nat) : Int); let k := rd lg ((lg.length - 1 : Nat) : Int); let x := IntKind.u64.wrap (rd hs k - IntKind.u64.wrap (T - rd hs i))
       fin d T (hs.set k.toNat x) (cl.set i.toNat ⟨rd hs i, k⟩) (if x < T then sm.take (sm.length - 1) ++ [k] else sm.take (sm.length - 1)) (if x < T then lg.take (lg.length - 1) else lg.take (lg.length - 1) ++ [k]))
      else cl
/-- All are places of a list of n. -/
def InR (n : Nat) (l : List Int) : Prop := ∀ j ∈ l, 0 ≤ j ∧ j < n
theorem InR.rd {n : Nat} {l : List Int} (h : InR n l) {i : Nat} (hi : i < l.length) : 0 ≤ rd l (i : Int) ∧ rd l (i : Int) < n := by
  obtain ⟨h', e⟩ := rd_lt (l := l) (i := (i : Int)) (by omega) (by omega)
  rw [e]
  exact h _ (List.getElem_mem h')
theorem InR.take {n : Nat} {l : List Int} (h : InR n l) (m : Nat) : InR n (l.take m) := fun j hj => h j (List.mem_of_mem_take hj)
theorem InR.snoc {n : Nat} {l : List Int} (h : InR n l) {k : Int} (hk : 0 ≤ k ∧ k < n) : InR n (l ++ [k]) := fun j hj => by
  rcases List.mem_append.1 hj with h1 | h1
  · exact h j h1
  · simp only [List.mem_singleton] at h1; subst h1; exact hk
theorem last_w {m : Nat} (h0 : 0 < m) (h1 : m < 9223372036854775807) : wrap64 ((m : Int) - 1) = ((m - 1 : Nat) : Int) := by rw [w64_id (by omega) (by omega)]; omega
theorem l1_ok (T : Int) (n : Nat) : ∀ (d k : Nat) (hs : List Int) (cl : List S62) (sm lg : List Int), sm.length + lg.length ≤ d → d < k → d < 17592186044416 → hs.length = n → cl.length = n → InR n sm → InR n lg →
    alias_Build.l1 k T hs cl sm lg = some (T, fin d T hs cl sm lg, 0) := by
  intro d
  induction d with
  | zero =>
    intro k hs cl sm lg hd hk _ hh hc is il
    obtain ⟨k, rfl⟩ : ∃ m, k = m + 1 := ⟨k - 1, by omega⟩
    simp only [alias_Build.l1, fin]
    rw [if_neg (by omega)]
  | succ d ih =>
    intro k hs cl sm lg hd hk hb hh hc is il
    obtain ⟨k, rfl⟩ : ∃ m, k = m + 1 := ⟨k - 1, by omega⟩
    simp only [alias_Build.l1, fin]
    by_cases c : 0 < sm.length ∧ 0 < lg.length
    · have ps := is.rd (i := sm.length - 1) (by omega)
      have pl := il.rd (i := lg.length - 1) (by omega)
      rw [if_pos (by omega), if_pos c, last_w (m := sm.length) (by omega) (by omega), last_w (m := lg.length) (by omega) (by omega)]
      rw [if_pos (by omega), Int.toNat_natCast, Int.toNat_natCast]
      have h1 : (sm.take (sm.length - 1)).length = sm.length - 1 := by rw [List.length_take]; omega
      have h2 : (lg.take (lg.length - 1)).length = lg.length - 1 := by rw [List.length_take]; omega
      refine ih k _ _ _ _ ?_ (by omega) (by omega) (by rw [List.length_set]; exact hh) (by rw [List.length_set]; exact hc) ?_ ?_
      · split <;> simp only [List.length_append, List.length_singleton, h1, h2] <;> omega
      · split
        · exact (is.take _).snoc pl
        · exact is.take _
      · split
        · exact il.take _
        · exact (il.take _).snoc pl
    · rw [if_neg (by omega), if_neg c]
/-- What place j has at first. -/
def hasAt (l : List Int) (j : Nat) : Int := IntKind.u64.wrap (rd l (j : Int) * IntKind.u64.wrap (l.length : Int))
def hs0 (l : List Int) (i : Nat) : List Int := (List.range i).map (hasAt l) ++ List.replicate (l.length - i) 0
def cl0 (T : Int) (i : Nat) : List S62 := (List.range i).map fun j : Nat => ⟨T, (j : Int)⟩
def sm0 (l : List Int) (T : Int) (i : Nat) : List Int := ((List.range i).filter fun j => decide (hasAt l j < T)).map fun j : Nat => (j : Int)
def lg0 (l : List Int) (T : Int) (i : Nat) : List Int := ((List.range i).filter fun j => !decide (hasAt l j < T)).map fun j : Nat => (j : Int)
theorem set_rep {α : Type} (a : List α) (z x : α) (m : Nat) (h : 0 < m) : (a ++ List.replicate m z).set a.length x = (a ++ [x]) ++ List.replicate (m - 1) z := by
  obtain ⟨m, rfl⟩ : ∃ q, m = q + 1 := ⟨m - 1, by omega⟩
  rw [List.set_append_right _ _ (Nat.le_refl _)]
  simp [List.replicate_succ]
theorem hs0_step (l : List Int) {i : Nat} (h : i < l.length) : (hs0 l i).set i (hasAt l i) = hs0 l (i + 1) := by
  unfold hs0
  have := set_rep ((List.range i).map (hasAt l)) 0 (hasAt l i) (l.length - i) (by omega)
  rw [List.length_map, List.length_range] at this
  rw [this, List.range_succ, List.map_append, show l.length - i - 1 = l.length - (i + 1) by omega]; rfl
theorem hs0_len (l : List Int) {i : Nat} (h : i ≤ l.length) : (hs0 l i).length = l.length := by
  simp only [hs0, List.length_append, List.length_map, List.length_range, List.length_replicate]; omega
theorem cl0_step (T : Int) (i : Nat) : cl0 T i ++ [⟨T, (i : Int)⟩] = cl0 T (i + 1) := by simp [cl0, List.range_succ]
theorem cl0_len (T : Int) (i : Nat) : (cl0 T i).length = i := by simp [cl0]
theorem sm0_step (l : List Int) (T : Int) (i : Nat) : (if hasAt l i < T then sm0 l T i ++ [(i : Int)] else sm0 l T i) = sm0 l T (i + 1) := by
  unfold sm0
  rw [List.range_succ, List.filter_append, List.map_append]
  by_cases c : hasAt l i < T <;> simp [c]
theorem lg0_step (l : List Int) (T : Int) (i : Nat) : (if hasAt l i < T then lg0 l T i else lg0 l T i ++ [(i : Int)]) = lg0 l T (i + 1) := by
  unfold lg0
  rw [List.range_succ, List.filter_append, List.map_append]
  by_cases c : hasAt l i < T <;> simp [c]
theorem smlg_len (l : List Int) (T : Int) (i : Nat) : (sm0 l T i).length + (lg0 l T i).length = i := by
  induction i with
  | zero => rfl
  | succ i ih =>
    rw [← sm0_step, ← lg0_step]
    by_cases c : hasAt l i < T
    · rw [if_pos c, if_pos c, List.length_append, List.length_singleton]; omega
    · rw [if_neg c, if_neg c, List.length_append, List.length_singleton]; omega
theorem sm0_in (l : List Int) (T : Int) (i : Nat) : InR i (sm0 l T i) := fun j hj => by
  simp only [sm0, List.mem_map, List.mem_filter, List.mem_range] at hj
  obtain ⟨a, ⟨h, _⟩, rfl⟩ := hj
  omega
theorem lg0_in (l : List Int) (T : Int) (i : Nat) : InR i (lg0 l T i) := fun j hj => by
  simp only [lg0, List.mem_map, List.mem_filter, List.mem_range] at hj
  obtain ⟨a, ⟨h, _⟩, rfl⟩ := hj
  omega
/-- The cells of the table of l, T the sum of l. -/
def tabS (l : List Int) : List S62 := fin l.length l.sum (hs0 l l.length) (cl0 l.sum l.length) (sm0 l l.sum l.length) (lg0 l l.sum l.length)
theorem l0_ok (T : Int) (l : List Int) (hm : l.length ≤ 1048576) : ∀ (d k i : Nat), i + d = l.length → d + l.length + 1 < k →
    alias_Build.l0 k l T (hs0 l i) (cl0 T i) (sm0 l T i) (lg0 l T i) (i : Int) = some (T, fin l.length T (hs0 l l.length) (cl0 T l.length) (sm0 l T l.length) (lg0 l T l.length), 0) := by
  intro d
  induction d with
  | zero =>
    intro k i hi hk
    obtain ⟨k, rfl⟩ : ∃ m, k = m + 1 := ⟨k - 1, by omega⟩
    simp only [alias_Build.l0]
    obtain rfl : i = l.length := by omega
    rw [if_neg (by omega)]
    exact l1_ok T l.length l.length k _ _ _ _ (by have := smlg_len l T l.length; omega) (by omega) (by omega) (hs0_len l (Nat.le_refl _)) (cl0_len T _) (sm0_in l T _) (lg0_in l T _)
  | succ d ih =>
    intro k i hi hk
    obtain ⟨k, rfl⟩ : ∃ m, k = m + 1 := ⟨k - 1, by omega⟩
    simp only [alias_Build.l0]
    have h1 := hs0_len l (i := i) (by omega)
    have h2 := cl0_len T i
    have h3 := smlg_len l T i
    rw [if_pos (by omega), if_pos (by omega), Int.toNat_natCast, stepC (m := l.length) (by omega) (by omega)]
    rw [show IntKind.u64.wrap (rd l (i : Int) * IntKind.u64.wrap (l.length : Int)) = hasAt l i from rfl, hs0_step l (by omega), cl0_step, sm0_step, lg0_step]
    exact ih k (i + 1) (by omega) (by omega)
/-- The table of stakes, or why there is none. -/
def buildS (l : List Int) : Int × List S62 × Int :=
  if l.length = 0 then (0, [], 10) else if l.sum < 9223372036854775808 then (if l.sum = 0 then (0, [], 10) else if (l.length : Int) * l.sum < 9223372036854775808 then (l.sum, tabS l, 0) else (0, [], 11)) else (0, [], 11)
theorem totalA_ok (k : Nat) (l : List Int) (hl : U64 l) (hk : l.length < k) (hm : l.length ≤ 1048576) :
    alias_total.f k l = some (if l.length = 0 then (0, 10) else if l.sum < 9223372036854775808 then (if l.sum = 0 then (0, 10) else if (l.length : Int) * l.sum < 9223372036854775808 then (l.sum, 0) else (0, 11)) else (0, 11)) := by
  unfold alias_total.f
  rw [u64w_id (x := (l.length : Int)) (by omega) (by omega)]
  by_cases z : l.length = 0
  · rw [if_pos (by omega), if_pos z]
  · rw [if_neg (by omega), if_neg z, total_ok k l hl hk (by omega), bs]
    have hs := sum_nonneg hl
    by_cases c : l.sum < 9223372036854775808
    · simp only [if_pos c]
      rw [if_pos trivial]
      by_cases e : l.sum = 0
      · rw [if_pos e, if_pos e]
      · rw [if_neg e, if_neg e, mul_ok (by omega) (by omega), bs]
        by_cases g : (l.length : Int) * l.sum < 9223372036854775808
        · simp only [if_pos g]; rw [if_pos trivial]
        · simp only [if_neg g]; rw [if_neg (by decide)]
    · simp only [if_neg c]
      rw [if_neg (by decide)]
theorem buildA_ok (k : Nat) (l : List Int) (hl : U64 l) (hk : 2 * l.length + 1 < k) (hm : l.length ≤ 1048576) : alias_Build.f k l = some (buildS l) := by
  unfold alias_Build.f buildS
  rw [totalA_ok k l hl (by omega) hm, bs]
  by_cases z : l.length = 0
  · simp only [if_pos z]; rw [if_neg (by decide)]
  · simp only [if_neg z]
    by_cases c : l.sum < 9223372036854775808
    · simp only [if_pos c]
      by_cases e : l.sum = 0
      · simp only [if_pos e]; rw [if_neg (by decide)]
      · simp only [if_neg e]
        by_cases g : (l.length : Int) * l.sum < 9223372036854775808
        · simp only [if_pos g]
          rw [if_pos trivial, if_pos hm]
          have := l0_ok l.sum l hm l.length k 0 (by omega) (by omega)
          simpa [hs0, cl0, sm0, lg0, tabS] using this
        · simp only [if_neg g]; rw [if_neg (by decide)]
    · simp only [if_neg c]; rw [if_neg (by decide)]
end Go.Proofs.Ytbafkkbbjacekaa.Lm
