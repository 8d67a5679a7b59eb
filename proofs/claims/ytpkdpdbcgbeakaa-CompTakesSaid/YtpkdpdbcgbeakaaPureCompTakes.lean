/- Any state that has taken any block, and any constant, is the reference's; the statement over numbers and lists alone. No conditions. -/
import Derived.Test.YtpkdpdbcgbeakaaPCx12
import Derived.Test.YtpkdpdbcgbeakaaLmComp
import Derived.Test.YtpkdpdbcgbeakaaLmG32R
namespace Go.Proofs.Ytpkdpdbcgbeakaa.Pure
open Go.RowKit Go.Proofs.Ytpkdpdbcgbeakaa.PC Go.Proofs.YtpkdpdbcgbeakaaW.PrintWords Go.Proofs.YtpkdpdbcgbeakaaW.PrintLast Go.Proofs.Ytpkdpdbcgbeakaa.Lm
theorem r03First {x : Int} (h0 : 0 ≤ x) (h1 : x < 4294967296) {k : Nat} (hk : 50 ≤ k) : drawlotref03_First.f k x = some (sig x 7 18 3) := by
  unfold drawlotref03_First.f
  rw [r01rotate_ok (by omega) h0 h1 (by omega) (by omega), bs, r01rotate_ok (by omega) h0 h1 (by omega) (by omega), bs, r01right_ok (by omega) h0 h1 (by omega) (by omega), bs]
  rfl
theorem r03Second {x : Int} (h0 : 0 ≤ x) (h1 : x < 4294967296) {k : Nat} (hk : 50 ≤ k) : drawlotref03_Second.f k x = some (sig x 17 19 10) := by
  unfold drawlotref03_Second.f
  rw [r01rotate_ok (by omega) h0 h1 (by omega) (by omega), bs, r01rotate_ok (by omega) h0 h1 (by omega) (by omega), bs, r01right_ok (by omega) h0 h1 (by omega) (by omega), bs]
  rfl
theorem r03of1 (b : List Int) : ∀ (d k i : Nat) (w : List Int), 16 ≤ i → i + d = 64 → d + 60 ≤ k → InR 64 4294967296 w → (∀ j : Int, 0 ≤ j → j < i → Lm.Good b w j) →
    ∃ w', drawlotref03_Of.l1 k i w = some w' ∧ ∀ j : Int, 0 ≤ j → j < 64 → Lm.Good b w' j
  | 0, k, i, w, h16, hi, hk, hw, hg => by
    obtain ⟨k, rfl⟩ : ∃ m, k = m + 1 := ⟨k - 1, by omega⟩
    refine ⟨w, ?_, fun j h0 h1 => hg j h0 (by omega)⟩
    simp only [drawlotref03_Of.l1]
    rw [if_neg (by omega)]
  | d + 1, k, i, w, h16, hi, hk, hw, hg => by
    obtain ⟨k, rfl⟩ : ∃ m, k = m + 1 := ⟨k - 1, by omega⟩
    have e1 : wrap64 ((i : Int) + 1) = ((i + 1 : Nat) : Int) := by rw [w64_id (by omega) (by omega)]; omega
    have e2 : wrap64 ((i : Int) - 2) = i - 2 := w64_id (by omega) (by omega)
    have e7 : wrap64 ((i : Int) - 7) = i - 7 := w64_id (by omega) (by omega)
    have e15 : wrap64 ((i : Int) - 15) = i - 15 := w64_id (by omega) (by omega)
    have e16 : wrap64 ((i : Int) - 16) = i - 16 := w64_id (by omega) (by omega)
    have hn : 0 ≤ next w i ∧ next w i < 4294967296 := by unfold next; omega
    obtain ⟨w', h', hg'⟩ := r03of1 b d k (i + 1) (Ar.set 64 w i (next w i)) (by omega) (by omega) (by omega) (hw.set (by omega) (by omega) hn) (fun j h0 h1 => by
      by_cases hji : j = i
      · subst hji
        refine ⟨fun h => by omega, fun _ => ?_⟩
        rw [get_set (by omega) (by omega) (by omega), if_pos rfl, next_keep (by omega) (by omega) (by omega) (by omega)]
      · exact (hg j h0 (by omega)).keep (by omega) (by omega) h0 (by omega))
    refine ⟨w', ?_, hg'⟩
    simp only [drawlotref03_Of.l1]
    rw [if_pos (by omega), e2, if_pos (by omega), if_pos (by omega), r03Second (hw _).1 (hw _).2 (by omega), bs, e7, if_pos (by omega), if_pos (by omega), e15, if_pos (by omega), if_pos (by omega), r03First (hw _).1 (hw _).2 (by omega), bs, e16, if_pos (by omega), if_pos (by omega), if_pos (by omega), e1]
    exact h'
theorem r03of0 (b : List Int) (hb : InR 64 256 b) : ∀ (d k i : Nat) (w : List Int), i + d = 16 → d + 120 ≤ k → InR 64 4294967296 w → (∀ j : Int, 0 ≤ j → j < i → Lm.Good b w j) →
    ∃ w', drawlotref03_Of.l0 k i b w = some w' ∧ ∀ j : Int, 0 ≤ j → j < 64 → Lm.Good b w' j
  | 0, k, i, w, hi, hk, hw, hg => by
    obtain ⟨k, rfl⟩ : ∃ m, k = m + 1 := ⟨k - 1, by omega⟩
    simp only [drawlotref03_Of.l0]
    rw [if_neg (by omega)]
    exact r03of1 b 48 k 16 w (by omega) (by omega) (by omega) hw (fun j h0 h1 => hg j h0 (by omega))
  | d + 1, k, i, w, hi, hk, hw, hg => by
    obtain ⟨k, rfl⟩ : ∃ m, k = m + 1 := ⟨k - 1, by omega⟩
    have e4 : wrap64 (4 * (i : Int)) = 4 * i := w64_id (by omega) (by omega)
    have e41 : wrap64 (4 * (i : Int) + 1) = 4 * i + 1 := w64_id (by omega) (by omega)
    have e42 : wrap64 (4 * (i : Int) + 2) = 4 * i + 2 := w64_id (by omega) (by omega)
    have e43 : wrap64 (4 * (i : Int) + 3) = 4 * i + 3 := w64_id (by omega) (by omega)
    have e1 : wrap64 ((i : Int) + 1) = ((i + 1 : Nat) : Int) := by rw [w64_id (by omega) (by omega)]; omega
    have h32 : drawlotref01_Get32.f k [Ar.get 64 b (4 * (i : Int)), Ar.get 64 b (4 * (i : Int) + 1), Ar.get 64 b (4 * (i : Int) + 2), Ar.get 64 b (4 * (i : Int) + 3)] = some (word4 b i) := by
      rw [r01get32_ok k (by omega) _ _ _ _ (by simp only [List.mem_cons, List.not_mem_nil, or_false, forall_eq_or_imp, forall_eq]; exact ⟨hb _, hb _, hb _, hb _⟩)]
      rfl
    obtain ⟨w', h', hg'⟩ := r03of0 b hb d k (i + 1) (Ar.set 64 w i (word4 b i)) (by omega) (by omega) (hw.set (by omega) (by omega) (word4_range hb i)) (fun j h0 h1 => by
      by_cases hji : j = i
      · subst hji
        refine ⟨fun _ => ?_, fun h => by omega⟩
        rw [get_set (by omega) (by omega) (by omega), if_pos rfl]
      · exact (hg j h0 (by omega)).keep (by omega) (by omega) h0 (by omega))
    refine ⟨w', ?_, hg'⟩
    simp only [drawlotref03_Of.l0]
    rw [if_pos (by omega), e4, if_pos (by omega), if_pos (by omega), e41, if_pos (by omega), if_pos (by omega), e42, if_pos (by omega), if_pos (by omega), e43, if_pos (by omega), if_pos (by omega), h32, bs, if_pos (by omega), if_pos (by omega), e1]
    exact h'
/-- Two plans of one block have the same words. -/
theorem plans_same {b w v : List Int} (hw : ∀ j : Int, 0 ≤ j → j < 64 → Lm.Good b w j) (hv : ∀ j : Int, 0 ≤ j → j < 64 → Lm.Good b v j) : ∀ (n : Nat) (j : Int), j < n → 0 ≤ j → j < 64 → Ar.get 64 w j = Ar.get 64 v j
  | 0, j, hn, h0, h1 => by omega
  | n + 1, j, hn, h0, h1 => by
    by_cases hc : j < 16
    · rw [(hw j h0 h1).1 hc, (hv j h0 h1).1 hc]
    · rw [(hw j h0 h1).2 (by omega), (hv j h0 h1).2 (by omega)]
      unfold next
      have ih := fun i (a : i < (n : Int)) (b : 0 ≤ i) (c : i < 64) => plans_same hw hv n i a b c
      rw [ih (j - 2) (by omega) (by omega) (by omega), ih (j - 7) (by omega) (by omega) (by omega), ih (j - 15) (by omega) (by omega) (by omega), ih (j - 16) (by omega) (by omega) (by omega)]
theorem turned_ok {x : Int} (h0 : 0 ≤ x) (h1 : x < 4294967296) {k : Nat} (hk : 50 ≤ k) (a b c : Nat) (ha : a < 32) (hb : b < 32) (hc : c < 32) : drawlotref04_turned.f k x a b c = some (rot3 x a b c) := by
  unfold drawlotref04_turned.f
  rw [r01rotate_ok (by omega) h0 h1 (by omega) (by omega), bs, r01rotate_ok (by omega) h0 h1 (by omega) (by omega), bs, r01rotate_ok (by omega) h0 h1 (by omega) (by omega), bs, show ((a : Int) % 32).toNat = a by omega, show ((b : Int) % 32).toNat = b by omega, show ((c : Int) % 32).toNat = c by omega]
  rfl
theorem r04Round {s : List Int} (hs : InR 8 4294967296 s) (w k : Int) {n : Nat} (hn : 50 ≤ n) : drawlotref04_Round.f n s w k = some (rnd s w k) := by
  unfold drawlotref04_Round.f
  have t1 := turned_ok (hs 4).1 (hs 4).2 hn 6 11 25 (by decide) (by decide) (by decide)
  have t2 := turned_ok (hs 0).1 (hs 0).2 hn 2 13 22 (by decide) (by decide) (by decide)
  rw [show drawlotref04_turned.f n (Ar.get 8 s 4) 6 11 25 = _ from t1, bs, show drawlotref04_choice.f (Ar.get 8 s 4) (Ar.get 8 s 5) (Ar.get 8 s 6) = some (chF (Ar.get 8 s 4) (Ar.get 8 s 5) (Ar.get 8 s 6)) from rfl, bs,
    show drawlotref04_turned.f n (Ar.get 8 s 0) 2 13 22 = _ from t2, bs, show drawlotref04_majority.f (Ar.get 8 s 0) (Ar.get 8 s 1) (Ar.get 8 s 2) = some (majF (Ar.get 8 s 0) (Ar.get 8 s 1) (Ar.get 8 s 2)) from rfl, bs]
  have e : ((((Ar.get 8 s 7 + rot3 (Ar.get 8 s 4) 6 11 25) % 4294967296 + chF (Ar.get 8 s 4) (Ar.get 8 s 5) (Ar.get 8 s 6)) % 4294967296 + k) % 4294967296 + w) % 4294967296 = tee s w k := by
    unfold tee lowF
    omega
  rw [e]
  rfl
def Cs : List Int := (comp_constants.f).getD []
theorem constants_ok : comp_constants.f = some Cs := rfl
theorem r04Constant {i : Int} (h0 : 0 ≤ i) (h1 : i < 64) : drawlotref04_Constant.f i = some (Ar.get 64 Cs i) := by
  unfold drawlotref04_Constant.f
  rw [if_neg (by omega), if_neg (by omega), if_pos (by omega), if_pos (by omega)]
  rfl
theorem take_end (a : List Int) : ∀ (d k i : Nat) (x : List Int), i + d = 8 → d < k → ∃ r, comp_Take.l1 k i a x = some r ∧ drawlotref04_Take.l1 k i a x = some r
  | 0, k, i, x, hi, hk => by
    obtain ⟨k, rfl⟩ : ∃ m, k = m + 1 := ⟨k - 1, by omega⟩
    refine ⟨x, ?_, ?_⟩
    · simp only [comp_Take.l1]
      rw [if_neg (by omega)]
    · simp only [drawlotref04_Take.l1]
      rw [if_neg (by omega)]
  | d + 1, k, i, x, hi, hk => by
    obtain ⟨k, rfl⟩ : ∃ m, k = m + 1 := ⟨k - 1, by omega⟩
    have e1 : wrap64 ((i : Int) + 1) = ((i + 1 : Nat) : Int) := by rw [w64_id (by omega) (by omega)]; omega
    obtain ⟨r, h1, h2⟩ := take_end a d k (i + 1) (Ar.set 8 x i ((Ar.get 8 x i + Ar.get 8 a i) % 4294967296)) (by omega) (by omega)
    refine ⟨r, ?_, ?_⟩
    · simp only [comp_Take.l1]
      rw [if_pos (by omega), if_pos (by omega), e1]
      exact h1
    · simp only [drawlotref04_Take.l1]
      rw [if_pos (by omega), if_pos (by omega), e1]
      exact h2
theorem take_loop (a w v : List Int) (hwv : ∀ j : Int, 0 ≤ j → j < 64 → Ar.get 64 w j = Ar.get 64 v j) : ∀ (d k i : Nat) (x : List Int), i + d = 64 → d + 60 ≤ k → InR 8 4294967296 x → ∃ r, comp_Take.l0 k w i a x Cs = some r ∧ drawlotref04_Take.l0 k i a v x = some r
  | 0, k, i, x, hi, hk, hx => by
    obtain ⟨k, rfl⟩ : ∃ m, k = m + 1 := ⟨k - 1, by omega⟩
    obtain ⟨r, h1, h2⟩ := take_end a 8 k 0 x (by omega) (by omega)
    refine ⟨r, ?_, ?_⟩
    · simp only [comp_Take.l0]
      rw [if_neg (by omega)]
      exact h1
    · simp only [drawlotref04_Take.l0]
      rw [if_neg (by omega)]
      exact h2
  | d + 1, k, i, x, hi, hk, hx => by
    obtain ⟨k, rfl⟩ : ∃ m, k = m + 1 := ⟨k - 1, by omega⟩
    have e1 : wrap64 ((i : Int) + 1) = ((i + 1 : Nat) : Int) := by rw [w64_id (by omega) (by omega)]; omega
    obtain ⟨r, h1, h2⟩ := take_loop a w v hwv d k (i + 1) (rnd x (Ar.get 64 w i) (Ar.get 64 Cs i)) (by omega) (by omega) (rnd_in hx _ _)
    refine ⟨r, ?_, ?_⟩
    · simp only [comp_Take.l0]
      rw [if_pos (by omega), if_pos (by omega), Round_ok hx, bs, e1]
      exact h1
    · simp only [drawlotref04_Take.l0]
      rw [if_pos (by omega), if_pos (by omega), r04Constant (by omega) (by omega), bs, ← hwv i (by omega) (by omega), r04Round hx _ _ (by omega), bs, e1]
      exact h2
theorem CompTakes : drawlotlaw04_CompTakes.Pure := by
  intro s b i hs hb hi
  have hs' : InR 8 4294967296 s := InR.of_mem (by decide) hs.1 (fun x hx => wf32 (hs.2 x hx))
  have hb' : InR 64 256 b := InR.of_mem (by decide) hb.1 (fun x hx => wf8 (hb.2 x hx))
  refine ⟨200, ?_⟩
  obtain ⟨w, ew, _, hw⟩ := Of_ok hb' (k := 200) (by omega)
  obtain ⟨v, ev, hv⟩ := r03of0 b hb' 16 200 0 _ (by omega) (by omega) (InR.zero 64 (by decide)) (fun j h0 h1 => by omega)
  obtain ⟨r, h1, h2⟩ := take_loop s w v (fun j h0 h1 => plans_same hw hv 64 j (by omega) h0 h1) 64 200 0 s (by omega) (by omega) hs'
  have t1 : comp_Take.f 200 s b = some r := by
    unfold comp_Take.f
    rw [constants_ok, bs, ew, bs]
    exact h1
  have t2 : drawlotref04_Take.f 200 s b = some r := by
    unfold drawlotref04_Take.f
    rw [show drawlotref03_Of.f 200 b = some v from ev, bs]
    exact h2
  have c : ∃ z, comp_Constant.f i = some z ∧ drawlotref04_Constant.f i = some z := by
    by_cases h0 : i < 0
    · refine ⟨0, ?_, ?_⟩
      · unfold comp_Constant.f
        rw [constants_ok, bs, if_pos h0]
      · unfold drawlotref04_Constant.f
        rw [if_pos h0]
    · by_cases h1 : i < 64
      · refine ⟨Ar.get 64 Cs i, ?_, r04Constant (by omega) h1⟩
        unfold comp_Constant.f
        rw [constants_ok, bs, if_neg h0, if_neg (by omega), if_pos (by omega), if_pos h1]
      · refine ⟨0, ?_, ?_⟩
        · unfold comp_Constant.f
          rw [constants_ok, bs, if_neg h0, if_pos (by omega)]
        · unfold drawlotref04_Constant.f
          rw [if_neg h0, if_pos (by omega)]
  obtain ⟨z, c1, c2⟩ := c
  unfold drawlotlaw04_CompTakes.f
  rw [alive04 _ (by omega), bs, if_pos rfl, t1, bs, t2, bs, if_pos (eqb_self _ _), c1, bs, c2, bs]
  simp
end Go.Proofs.Ytpkdpdbcgbeakaa.Pure
