/- What a block's plan has, and what comes back of words: the program's functions, told over elements. No conditions. -/
import Derived.Test.YtpkdpdbcgbeakaaPCx1
import Derived.Test.YtpkdpdbcgbeakaaPCx2
import Derived.Test.YtpkdpdbcgbeakaaLmG32
import Derived.Test.YtpkdpdbcgbeakaaLmArr
namespace Go.Proofs.Ytpkdpdbcgbeakaa.Lm
open Go.RowKit Go.Proofs.Ytpkdpdbcgbeakaa.PC Go.Proofs.YtpkdpdbcgbeakaaW.PrintWords Go.Proofs.YtpkdpdbcgbeakaaW.PrintLast Go.Proofs.YtpkdpdbcgbeakaaW.PrintMore

/-- A mix: two turns and a shift, together. -/
def sig (x : Int) (a b c : Nat) : Int := Go.bits .xor .u32 (Go.bits .xor .u32 (rotF x a) (rotF x b)) (x / 2 ^ c)
theorem bits_range (op : BinOp) (x y : Int) : 0 ≤ Go.bits op .u32 x y ∧ Go.bits op .u32 x y < 4294967296 := by
  unfold Go.bits
  simp only [u32w]
  omega
theorem sig_range (x : Int) (a b c : Nat) : 0 ≤ sig x a b c ∧ sig x a b c < 4294967296 := bits_range _ _ _
theorem First_ok {x : Int} (h0 : 0 ≤ x) (h1 : x < 4294967296) : plan_First.f x = some (sig x 7 18 3) := by
  unfold plan_First.f plan_mix.f
  rw [rotate_ok h0 h1, bs, rotate_ok h0 h1, bs, right_ok (by omega) (by omega), bs, bs]
  rfl
theorem Second_ok {x : Int} (h0 : 0 ≤ x) (h1 : x < 4294967296) : plan_Second.f x = some (sig x 17 19 10) := by
  unfold plan_Second.f plan_mix.f
  rw [rotate_ok h0 h1, bs, rotate_ok h0 h1, bs, right_ok (by omega) (by omega), bs, bs]
  rfl

/-- The word that four bytes are. -/
def word4 (b : List Int) (i : Int) : Int := ((Ar.get 64 b (4 * i) * 256 + Ar.get 64 b (4 * i + 1)) * 256 + Ar.get 64 b (4 * i + 2)) * 256 + Ar.get 64 b (4 * i + 3)
theorem word4_range {b : List Int} (hb : InR 64 256 b) (i : Int) : 0 ≤ word4 b i ∧ word4 b i < 4294967296 := by
  have h0 := hb (4 * i); have h1 := hb (4 * i + 1); have h2 := hb (4 * i + 2); have h3 := hb (4 * i + 3)
  unfold word4
  omega
/-- The word that a plan has behind its first ones. -/
def next (w : List Int) (i : Int) : Int := (((sig (Ar.get 64 w (i - 2)) 17 19 10 + Ar.get 64 w (i - 7)) % 4294967296 + sig (Ar.get 64 w (i - 15)) 7 18 3) % 4294967296 + Ar.get 64 w (i - 16)) % 4294967296
/-- A plan's word number j is what it should be. -/
def Good (b w : List Int) (j : Int) : Prop := (j < 16 → Ar.get 64 w j = word4 b j) ∧ (16 ≤ j → Ar.get 64 w j = next w j)
theorem next_keep {w : List Int} {i j v : Int} (h0 : 0 ≤ i) (h1 : i < 64) (hj : 16 ≤ j) (hji : j ≤ i) : next (Ar.set 64 w i v) j = next w j := by
  unfold next
  rw [get_set h0 h1 (by omega), get_set h0 h1 (by omega), get_set h0 h1 (by omega), get_set h0 h1 (by omega), if_neg (by omega), if_neg (by omega), if_neg (by omega), if_neg (by omega)]
theorem Good.keep {b w : List Int} {i j v : Int} (h0 : 0 ≤ i) (h1 : i < 64) (hj : 0 ≤ j) (hji : j < i) (h : Good b w j) : Good b (Ar.set 64 w i v) j := by
  refine ⟨fun hc => ?_, fun hc => ?_⟩
  · rw [get_set h0 h1 hj, if_neg (by omega)]; exact h.1 hc
  · rw [get_set h0 h1 hj, if_neg (by omega), next_keep h0 h1 hc (by omega)]; exact h.2 hc

theorem of_loop (b : List Int) (hb : InR 64 256 b) : ∀ (d k i : Nat) (w : List Int), i + d = 64 → d + 10 ≤ k → InR 64 4294967296 w → (∀ j : Int, 0 ≤ j → j < i → Good b w j) →
    ∃ w', plan_Of.l0 k i b w = some w' ∧ InR 64 4294967296 w' ∧ ∀ j : Int, 0 ≤ j → j < 64 → Good b w' j
  | 0, k, i, w, hi, hk, hw, hg => by
    obtain ⟨k, rfl⟩ : ∃ m, k = m + 1 := ⟨k - 1, by omega⟩
    refine ⟨w, ?_, hw, fun j h0 h1 => hg j h0 (by omega)⟩
    simp only [plan_Of.l0]
    rw [if_neg (by omega)]
  | d + 1, k, i, w, hi, hk, hw, hg => by
    obtain ⟨k, rfl⟩ : ∃ m, k = m + 1 := ⟨k - 1, by omega⟩
    have e4 : wrap64 (4 * (i : Int)) = 4 * i := w64_id (by omega) (by omega)
    have e1 : wrap64 ((i : Int) + 1) = ((i + 1 : Nat) : Int) := by rw [w64_id (by omega) (by omega)]; omega
    by_cases hc : i < 16
    · have e44 : wrap64 (4 * (i : Int) + 4) = 4 * i + 4 := w64_id (by omega) (by omega)
      have hp : Ar.part 64 b (4 * (i : Int)).toNat 4 = [Ar.get 64 b (4 * (i : Int)), Ar.get 64 b (4 * (i : Int) + 1), Ar.get 64 b (4 * (i : Int) + 2), Ar.get 64 b (4 * (i : Int) + 3)] := by
        rw [part4 b (o := (4 * (i : Int)).toNat) (by omega), show ((4 * (i : Int)).toNat : Int) = 4 * i by omega]
      have h32 : word_Get32.f k (Ar.part 64 b (4 * (i : Int)).toNat 4) = some (word4 b i) := by
        rw [hp, get32_ok k (by omega) _ _ _ _ (by simp only [List.mem_cons, List.not_mem_nil, or_false, forall_eq_or_imp, forall_eq]; exact ⟨hb _, hb _, hb _, hb _⟩)]
        rfl
      obtain ⟨w', h', hr, hg'⟩ := of_loop b hb d k (i + 1) (Ar.set 64 w i (word4 b i)) (by omega) (by omega) (hw.set (by omega) (by omega) (word4_range hb i)) (fun j h0 h1 => by
        by_cases hji : j = i
        · subst hji
          refine ⟨fun _ => ?_, fun h => by omega⟩
          rw [get_set (by omega) (by omega) (by omega), if_pos rfl]
        · exact (hg j h0 (by omega)).keep (by omega) (by omega) h0 (by omega))
      refine ⟨w', ?_, hr, hg'⟩
      simp only [plan_Of.l0]
      rw [if_pos (by omega), e4, if_pos (by omega), if_pos (by omega), e44, if_pos (by omega), if_pos (by omega), if_pos (by omega), h32, bs, if_pos (by omega), e1]
      exact h'
    · have e2 : wrap64 ((i : Int) - 2) = i - 2 := w64_id (by omega) (by omega)
      have e7 : wrap64 ((i : Int) - 7) = i - 7 := w64_id (by omega) (by omega)
      have e15 : wrap64 ((i : Int) - 15) = i - 15 := w64_id (by omega) (by omega)
      have e16 : wrap64 ((i : Int) - 16) = i - 16 := w64_id (by omega) (by omega)
      have hn : 0 ≤ next w i ∧ next w i < 4294967296 := by unfold next; omega
      obtain ⟨w', h', hr, hg'⟩ := of_loop b hb d k (i + 1) (Ar.set 64 w i (next w i)) (by omega) (by omega) (hw.set (by omega) (by omega) hn) (fun j h0 h1 => by
        by_cases hji : j = i
        · subst hji
          refine ⟨fun h => by omega, fun _ => ?_⟩
          rw [get_set (by omega) (by omega) (by omega), if_pos rfl, next_keep (by omega) (by omega) (by omega) (by omega)]
        · exact (hg j h0 (by omega)).keep (by omega) (by omega) h0 (by omega))
      refine ⟨w', ?_, hr, hg'⟩
      simp only [plan_Of.l0]
      rw [if_pos (by omega), e4, if_neg (by omega), e2, if_pos (by omega), if_pos (by omega), Second_ok (hw _).1 (hw _).2, bs, e7, if_pos (by omega), if_pos (by omega), e15, if_pos (by omega), if_pos (by omega), First_ok (hw _).1 (hw _).2, bs, e16, if_pos (by omega), if_pos (by omega), if_pos (by omega), e1]
      exact h'
/-- A block's plan. -/
theorem Of_ok {b : List Int} (hb : InR 64 256 b) {k : Nat} (hk : 80 ≤ k) : ∃ w, plan_Of.f k b = some w ∧ InR 64 4294967296 w ∧ ∀ j : Int, 0 ≤ j → j < 64 → Good b w j := by
  unfold plan_Of.f
  exact of_loop b hb 64 k 0 _ (by omega) (by omega) (InR.zero 64 (by decide)) (fun j h0 h1 => by omega)

/-- The bytes of word number q stand where they should. -/
def Has (l b : List Int) (q : Int) : Prop := Ar.get 64 b (4 * q) = Ar.get 16 l q / 16777216 % 256 ∧ Ar.get 64 b (4 * q + 1) = Ar.get 16 l q / 65536 % 256 ∧ Ar.get 64 b (4 * q + 2) = Ar.get 16 l q / 256 % 256 ∧ Ar.get 64 b (4 * q + 3) = Ar.get 16 l q % 256
theorem back_loop (l : List Int) : ∀ (d k i : Nat) (b : List Int), i + d = 16 → d < k → InR 64 256 b → (∀ q : Int, 0 ≤ q → q < i → Has l b q) →
    ∃ b', plan_Back.l0 k l i b = some b' ∧ InR 64 256 b' ∧ ∀ q : Int, 0 ≤ q → q < 16 → Has l b' q
  | 0, k, i, b, hi, hk, hb, hg => by
    obtain ⟨k, rfl⟩ : ∃ m, k = m + 1 := ⟨k - 1, by omega⟩
    refine ⟨b, ?_, hb, fun j h0 h1 => hg j h0 (by omega)⟩
    simp only [plan_Back.l0]
    rw [if_neg (by omega)]
  | d + 1, k, i, b, hi, hk, hb, hg => by
    obtain ⟨k, rfl⟩ : ∃ m, k = m + 1 := ⟨k - 1, by omega⟩
    have e4 : wrap64 (4 * (i : Int)) = 4 * i := w64_id (by omega) (by omega)
    have e1 : wrap64 ((i : Int) + 1) = ((i + 1 : Nat) : Int) := by rw [w64_id (by omega) (by omega)]; omega
    have et : (4 * (i : Int)).toNat = 4 * i := by omega
    generalize hy : Ar.get 16 l i = y at *
    have ep : word_Put32.f y = some [y / 16777216 % 256, y / 65536 % 256, y / 256 % 256, y % 256] := rfl
    have eq4 : Ar.part 4 [y / 16777216 % 256, y / 65536 % 256, y / 256 % 256, y % 256] 0 4 = [y / 16777216 % 256, y / 65536 % 256, y / 256 % 256, y % 256] := rfl
    have hlen : [y / 16777216 % 256, y / 65536 % 256, y / 256 % 256, y % 256].length = 4 := rfl
    have hget : ∀ j : Int, 0 ≤ j → Ar.get 64 (Ar.putAll 64 b (4 * i) [y / 16777216 % 256, y / 65536 % 256, y / 256 % 256, y % 256]) j = if ((4 * i : Nat) : Int) ≤ j ∧ j < ((4 * i : Nat) : Int) + 4 then rd [y / 16777216 % 256, y / 65536 % 256, y / 256 % 256, y % 256] (j - ((4 * i : Nat) : Int)) else Ar.get 64 b j :=
      fun j hj => get_putAll _ b (4 * i) j hj (by rw [hlen]; omega)
    obtain ⟨b', h', hr, hg'⟩ := back_loop l d k (i + 1) (Ar.putAll 64 b (4 * i) [y / 16777216 % 256, y / 65536 % 256, y / 256 % 256, y % 256]) (by omega) (by omega)
      (hb.putAll (by rw [hlen]; omega) (by simp only [List.mem_cons, List.not_mem_nil, or_false, forall_eq_or_imp, forall_eq]; omega)) (fun q h0 h1 => by
        unfold Has
        rw [hget _ (by omega), hget _ (by omega), hget _ (by omega), hget _ (by omega)]
        by_cases hq : q = i
        · subst hq
          rw [if_pos (by omega), if_pos (by omega), if_pos (by omega), if_pos (by omega), show 4 * (i : Int) - ((4 * i : Nat) : Int) = 0 by omega, show 4 * (i : Int) + 1 - ((4 * i : Nat) : Int) = 1 by omega, show 4 * (i : Int) + 2 - ((4 * i : Nat) : Int) = 2 by omega, show 4 * (i : Int) + 3 - ((4 * i : Nat) : Int) = 3 by omega, hy]
          exact ⟨rfl, rfl, rfl, rfl⟩
        · rw [if_neg (by omega), if_neg (by omega), if_neg (by omega), if_neg (by omega)]
          exact hg q h0 (by omega))
    refine ⟨b', ?_, hr, hg'⟩
    simp only [plan_Back.l0]
    rw [if_pos (by omega), if_pos (by omega), hy, ep, bs, e4, if_pos (by omega), if_pos (by omega), if_pos (by omega), eq4, et, e1]
    exact h'
/-- The block that words come back to. -/
theorem Back_ok (l : List Int) {k : Nat} (hk : 20 ≤ k) : ∃ b, plan_Back.f k l = some b ∧ InR 64 256 b ∧ ∀ q : Int, 0 ≤ q → q < 16 → Has l b q := by
  unfold plan_Back.f
  exact back_loop l 16 k 0 _ (by omega) (by omega) (InR.zero 64 (by decide)) (fun j h0 h1 => by omega)
/-- A block's own first words come back to it. -/
theorem back_same {b b' l : List Int} (hb : InR 64 256 b) (hl : ∀ q : Int, 0 ≤ q → q < 16 → Ar.get 16 l q = word4 b q) (h : ∀ q : Int, 0 ≤ q → q < 16 → Has l b' q) : Ar.eqb 64 b' b = true := by
  refine eqb_of fun j h0 h1 => ?_
  have hq := h (j / 4) (by omega) (by omega)
  unfold Has at hq
  rw [hl (j / 4) (by omega) (by omega)] at hq
  unfold word4 at hq
  have a0 := hb (4 * (j / 4)); have a1 := hb (4 * (j / 4) + 1); have a2 := hb (4 * (j / 4) + 2); have a3 := hb (4 * (j / 4) + 3)
  obtain ⟨q0, q1, q2, q3⟩ := hq
  rcases (show j = 4 * (j / 4) ∨ j = 4 * (j / 4) + 1 ∨ j = 4 * (j / 4) + 2 ∨ j = 4 * (j / 4) + 3 by omega) with e | e | e | e
  · rw [e, q0]; omega
  · rw [e, q1]; omega
  · rw [e, q2]; omega
  · rw [e, q3]; omega
/-- The first words of the block that words come back to are these. -/
theorem word_same {b l : List Int} {q : Int} (hl : InR 16 4294967296 l) (h : Has l b q) : word4 b q = Ar.get 16 l q := by
  unfold Has at h
  unfold word4
  have a := hl q
  obtain ⟨q0, q1, q2, q3⟩ := h
  rw [q0, q1, q2, q3]
  omega
theorem alive03 (k : Nat) (hk : 100 ≤ k) : drawlotlaw03_alive.f k = some true := at_rounds (g := fun k => drawlotlaw03_alive.f k) (fun k => drawlotlaw03_alive.mono k) (k := 100) (k' := k) hk (r := true) (by decide +kernel)
end Go.Proofs.Ytpkdpdbcgbeakaa.Lm
