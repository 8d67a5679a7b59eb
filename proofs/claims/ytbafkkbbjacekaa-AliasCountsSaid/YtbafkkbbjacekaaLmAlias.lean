/- What the functions of alias answer, in plain Lean: tables as a total and cells. No conditions. -/
import Derived.Test.YtbafkkbbjacekaaPBx5
import Derived.Test.YtbafkkbbjacekaaPBx3
import Derived.Test.YtbafkkbbjacekaaLmSafe
namespace Go.Proofs.Ytbafkkbbjacekaa.Lm
open Go.RowKit Go.Proofs.YtbafkkbbjacekaaW.PrintWords Go.Proofs.Ytbafkkbbjacekaa.PB

theorem stepC {n m : Nat} (h : n < m) (hm : m < 9223372036854775807) : wrap64 ((n : Int) + 1) = ((n + 1 : Nat) : Int) := by rw [w64_id (by omega) (by omega)]; omega
theorem rdT_nat (l : List S62) (i : Nat) : rd_T62 l (i : Int) = l.getD i z62 := by simp [rd_T62]
theorem rdT_get {l : List S62} {n : Nat} (h : n < l.length) : rd_T62 l (n : Int) = l[n] := by rw [rdT_nat, List.getD_eq_getElem?_getD, List.getElem?_eq_getElem h]; rfl
theorem dropT {l : List S62} {n : Nat} (h : n < l.length) : l.drop n = rd_T62 l (n : Int) :: l.drop (n + 1) := by rw [rdT_get h]; exact List.drop_eq_getElem_cons h
/-- May a cell stand in a table of n cells and total T. -/
def cellOk (T n : Int) (c : S62) : Bool := decide (c.f0 ≤ T) && (decide (0 ≤ c.f1) && decide (c.f1 < n))
theorem bad_ok (T n : Int) (c : S62) : alias_Right_bad T n c = !cellOk T n c := by
  unfold alias_Right_bad cellOk
  by_cases h : c.f0 ≤ T <;> by_cases g : 0 ≤ c.f1 <;> by_cases e : c.f1 < n <;> simp [h, g, e] <;> omega
/-- May a table be. -/
def rightS (T : Int) (cl : List S62) : Bool := decide (0 < (cl.length : Int)) && (decide (0 < T) && (decide ((cl.length : Int) * T < 9223372036854775808) && cl.all (cellOk T cl.length)))
theorem idx_ok (T n : Int) (l : List S62) (hm : l.length < 9223372036854775807) : ∀ (d k x : Nat), x + d = l.length → d < k →
    ∃ r, alias_Right_idx k l T n (x : Int) = some r ∧ (!decide (r ≥ 0)) = (l.drop x).all (cellOk T n) := by
  intro d
  induction d with
  | zero =>
    intro k x hx hk
    obtain ⟨k, rfl⟩ : ∃ m, k = m + 1 := ⟨k - 1, by omega⟩
    refine ⟨-1, ?_, ?_⟩
    · simp only [alias_Right_idx]; rw [if_neg (by omega)]
    · rw [List.drop_eq_nil_of_le (by omega)]; rfl
  | succ d ih =>
    intro k x hx hk
    obtain ⟨k, rfl⟩ : ∃ m, k = m + 1 := ⟨k - 1, by omega⟩
    simp only [alias_Right_idx]
    rw [if_pos (by omega), if_pos (by omega), dropT (by omega), bad_ok]
    by_cases c : cellOk T n (rd_T62 l (x : Int)) = true
    · rw [if_neg (by simp [c]), stepC (m := l.length) (by omega) hm]
      obtain ⟨r, h1, h2⟩ := ih k (x + 1) (by omega) (by omega)
      exact ⟨r, h1, by simp [c, h2]⟩
    · rw [if_pos (by simpa using c)]
      refine ⟨_, rfl, ?_⟩
      rw [List.all_cons, Bool.eq_false_iff.mpr c, Bool.false_and, decide_eq_true (by omega)]; rfl
theorem right_ok (k : Nat) (T : Int) (cl : List S62) (hT : 0 ≤ T ∧ T < 18446744073709551616) (hk : cl.length < k) (hm : cl.length < 9223372036854775807) : alias_Right.f k T cl = some (rightS T cl) := by
  unfold alias_Right.f rightS
  rw [u64w_id (x := (cl.length : Int)) (by omega) (by omega), mul_ok (by omega) hT, bs]
  by_cases c : (cl.length : Int) * T < 9223372036854775808
  · rw [if_pos c, if_pos rfl]
    by_cases z : (cl.length : Int) = 0
    · rw [if_pos z, decide_eq_false (p := 0 < (cl.length : Int)) (by omega)]; rfl
    · rw [if_neg z, decide_eq_true (p := 0 < (cl.length : Int)) (by omega)]
      by_cases t : T = 0
      · rw [if_pos t, decide_eq_false (p := 0 < T) (by omega)]; rfl
      · rw [if_neg t, decide_eq_true (p := 0 < T) (by omega), decide_eq_true c]
        obtain ⟨r, h1, h2⟩ := idx_ok T cl.length cl hm cl.length k 0 (by omega) hk
        rw [show (0 : Int) = ((0 : Nat) : Int) from rfl, h1, bs]
        rw [List.drop_zero] at h2
        rw [← h2]; simp
  · rw [if_neg c, decide_eq_false c]
    simp
theorem column_ok (k : Nat) (T : Int) (cl : List S62) (hT : 0 ≤ T ∧ T < 18446744073709551616) (hk : cl.length < k) (hm : cl.length < 9223372036854775807) (i : Int) :
    alias_column.f k T cl i = some (if rightS T cl = true then (if 0 ≤ i ∧ i < cl.length then 0 else 3) else 1) := by
  unfold alias_column.f
  rw [right_ok k T cl hT hk hm, bs]
  by_cases c : rightS T cl = true
  · rw [if_pos c, if_pos c]
    by_cases a : i < 0
    · rw [if_pos a, if_neg (by omega)]
    · rw [if_neg a]
      by_cases b : i ≥ (cl.length : Int)
      · rw [if_pos b, if_neg (by omega)]
      · rw [if_neg b, if_pos (by omega)]
  · rw [if_neg c, if_neg c]
/-- What a table tells of a column and an offset. -/
def lookS (T : Int) (cl : List S62) (i u : Int) : Int × Int :=
  if rightS T cl = true then (if 0 ≤ i ∧ i < cl.length ∧ u < T then (if u ≥ (rd_T62 cl i).f0 then ((rd_T62 cl i).f1, 0) else (i, 0)) else (0, 3)) else (0, 1)
theorem lookup_ok (k : Nat) (T : Int) (cl : List S62) (hT : 0 ≤ T ∧ T < 18446744073709551616) (hk : cl.length < k) (hm : cl.length < 9223372036854775807) (i u : Int) :
    alias_Lookup.f k T cl i u = some (lookS T cl i u) := by
  unfold alias_Lookup.f lookS
  rw [column_ok k T cl hT hk hm, bs]
  by_cases c : rightS T cl = true
  · simp only [if_pos c]
    by_cases a : 0 ≤ i ∧ i < cl.length
    · rw [if_pos a, if_pos rfl]
      by_cases b : u ≥ T
      · rw [if_pos b, if_neg (by omega)]
      · rw [if_neg b, if_pos a.1, if_pos a.2, if_pos (show 0 ≤ i ∧ i < (cl.length : Int) ∧ u < T by omega)]
        split <;> rfl
    · rw [if_neg a, if_neg (by decide), if_neg (by omega)]
  · simp only [if_neg c]
    rw [if_neg (by decide)]
/-- Cells times the total. -/
def sizeS (T : Int) (cl : List S62) : Int := if rightS T cl = true then (cl.length : Int) * T else 0
theorem rightS_lt {T : Int} {cl : List S62} (h : rightS T cl = true) : 0 < (cl.length : Int) ∧ 0 < T ∧ (cl.length : Int) * T < 9223372036854775808 ∧ ∀ c ∈ cl, c.f0 ≤ T ∧ 0 ≤ c.f1 ∧ c.f1 < cl.length := by
  simp only [rightS, Bool.and_eq_true, decide_eq_true_eq, List.all_eq_true, cellOk] at h
  exact h
theorem size_ok (k : Nat) (T : Int) (cl : List S62) (hT : 0 ≤ T ∧ T < 18446744073709551616) (hk : cl.length < k) (hm : cl.length < 9223372036854775807) : alias_Size.f k T cl = some (sizeS T cl) := by
  unfold alias_Size.f sizeS
  rw [right_ok k T cl hT hk hm, bs]
  by_cases c : rightS T cl = true
  · have h := rightS_lt c
    have := Int.mul_nonneg (a := (cl.length : Int)) (b := T) (by omega) (by omega)
    rw [if_pos c, if_pos c, u64w_id (x := (cl.length : Int)) (by omega) (by omega), u64w_id (by omega) (by omega)]
  · rw [if_neg c, if_neg c]
/-- The owner of a number of a table. -/
def ownerS (T : Int) (cl : List S62) (u : Int) : Int × Int :=
  if rightS T cl = true then (if u < (cl.length : Int) * T then lookS T cl (u / T) (u % T) else (0, 3)) else (0, 1)
theorem owner_okA (k : Nat) (T : Int) (cl : List S62) (hT : 0 ≤ T ∧ T < 18446744073709551616) (hk : cl.length < k) (hm : cl.length < 9223372036854775807) (u : Int) (hu : 0 ≤ u ∧ u < 18446744073709551616) :
    alias_Owner.f k T cl u = some (ownerS T cl u) := by
  unfold alias_Owner.f ownerS
  rw [right_ok k T cl hT hk hm, bs, size_ok k T cl hT hk hm, bs]
  unfold sizeS
  by_cases c : rightS T cl = true
  · have h := rightS_lt c
    simp only [if_pos c]
    by_cases a : u < (cl.length : Int) * T
    · have h0 : 0 ≤ u / T := Int.ediv_nonneg hu.1 (by omega)
      have h1 : u / T < cl.length := Int.ediv_lt_of_lt_mul (by omega) a
      rw [if_neg (by omega), if_neg (by omega), if_pos a, Int.tdiv_eq_ediv_of_nonneg hu.1, Int.tmod_eq_emod_of_nonneg hu.1, u64w_id h0 (by omega), w64_id (by omega) (by omega), lookup_ok k T cl hT hk hm, bs]
    · rw [if_pos (by omega), if_neg a]
  · simp only [if_neg c]
    first | done | rw [if_neg c]
/-- What a place has in the other columns. -/
def gave (T : Int) (cl : List S62) (i : Int) : Int := (cl.map fun c => if c.f1 = i then T - c.f0 else 0).sum
theorem gave_cons (T : Int) (c : S62) (cl : List S62) (i : Int) : gave T (c :: cl) i = (if c.f1 = i then T - c.f0 else 0) + gave T cl i := by simp [gave]
theorem wadd (a b : Int) : IntKind.u64.wrap (IntKind.u64.wrap a + b) = IntKind.u64.wrap (a + b) := by simp only [u64w]; omega
theorem owns_l (T i : Int) (cl cl' : List S62) (hm : cl.length < 9223372036854775807) : ∀ (d k x : Nat) (a : Int), x + d = cl.length → d < k → 0 ≤ a ∧ a < 18446744073709551616 →
    alias_Owns.l0 k i a cl (cl.length : Int) (x : Int) T cl' = some (IntKind.u64.wrap (a + gave T (cl.drop x) i), 0) := by
  intro d
  induction d with
  | zero =>
    intro k x a hx hk ha
    obtain ⟨k, rfl⟩ : ∃ m, k = m + 1 := ⟨k - 1, by omega⟩
    simp only [alias_Owns.l0]
    rw [if_neg (by omega), List.drop_eq_nil_of_le (by omega)]
    simp only [gave, List.map_nil, List.sum_nil, Int.add_zero]
    rw [u64w_id ha.1 ha.2]
  | succ d ih =>
    intro k x a hx hk ha
    obtain ⟨k, rfl⟩ : ∃ m, k = m + 1 := ⟨k - 1, by omega⟩
    simp only [alias_Owns.l0]
    rw [if_pos (by omega), if_pos (by omega), if_pos (by omega), dropT (by omega), gave_cons, stepC (m := cl.length) (by omega) hm]
    by_cases c : (rd_T62 cl (x : Int)).f1 = i
    · rw [if_pos c, if_pos c, ih k (x + 1) _ (by omega) (by omega) (by rw [u64w]; omega), wadd, Int.add_assoc, Int.add_comm a, Int.add_assoc, wadd]
      congr 2
      rw [Int.add_comm a, ← Int.add_assoc]
    · rw [if_neg c, if_neg c, ih k (x + 1) a (by omega) (by omega) ha, Int.zero_add]
/-- How many numbers a place owns. -/
def ownsS (T : Int) (cl : List S62) (i : Int) : Int × Int :=
  if rightS T cl = true then (if 0 ≤ i ∧ i < cl.length then (IntKind.u64.wrap ((rd_T62 cl i).f0 + gave T cl i), 0) else (0, 3)) else (0, 1)
/-- The cells' numbers are words. -/
def W62 (cl : List S62) : Prop := ∀ c ∈ cl, 0 ≤ c.f0 ∧ c.f0 < 18446744073709551616
theorem W62.rd {cl : List S62} (h : W62 cl) (i : Int) : 0 ≤ (rd_T62 cl i).f0 ∧ (rd_T62 cl i).f0 < 18446744073709551616 := by
  unfold rd_T62
  rw [List.getD_eq_getElem?_getD]
  by_cases hi : i.toNat < cl.length
  · rw [List.getElem?_eq_getElem hi]; exact h _ (List.getElem_mem hi)
  · rw [List.getElem?_eq_none (by omega)]; exact ⟨by decide, by decide⟩
theorem owns_ok (k : Nat) (T : Int) (cl : List S62) (hT : 0 ≤ T ∧ T < 18446744073709551616) (hk : cl.length < k) (hm : cl.length < 9223372036854775807) (hw : W62 cl) (i : Int) :
    alias_Owns.f k T cl i = some (ownsS T cl i) := by
  unfold alias_Owns.f ownsS
  rw [column_ok k T cl hT hk hm, bs]
  by_cases c : rightS T cl = true
  · simp only [if_pos c]
    by_cases a : 0 ≤ i ∧ i < cl.length
    · rw [if_pos (show 0 ≤ i ∧ i < (cl.length : Int) from a), if_pos rfl, if_pos a.1, if_pos a.2, if_pos (show 0 ≤ i ∧ i < (cl.length : Int) from a)]
      have := owns_l T i cl cl hm cl.length k 0 _ (by omega) hk (hw.rd i)
      rw [List.drop_zero] at this
      exact this
    · rw [if_neg a, if_neg (by decide), if_neg a]
  · simp only [if_neg c]
    rw [if_neg (by decide)]
end Go.Proofs.Ytbafkkbbjacekaa.Lm
