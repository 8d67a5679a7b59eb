/- What a round of the compression tells, and what comes back of it, in the program. No conditions. -/
import Derived.Test.YtpkdpdbcgbeakaaPCx3
import Derived.Test.YtpkdpdbcgbeakaaPCx5
import Derived.Test.YtpkdpdbcgbeakaaLmPlan
namespace Go.Proofs.Ytpkdpdbcgbeakaa.Lm
open Go.RowKit Go.Proofs.Ytpkdpdbcgbeakaa.PC Go.Proofs.YtpkdpdbcgbeakaaW.PrintWords Go.Proofs.YtpkdpdbcgbeakaaW.PrintLast Go.Proofs.YtpkdpdbcgbeakaaW.PrintMore

theorem bv_wrap (z : BitVec IntKind.u32.bits) : BitVec.ofInt IntKind.u32.bits (IntKind.u32.wrap (z.toNat : Int)) = z := by
  have h : (z.toNat : Int) < 4294967296 := by have := z.isLt; have e : 2 ^ IntKind.u32.bits = 4294967296 := rfl; omega
  rw [u32w, Int.emod_eq_of_lt (by omega) h, BitVec.ofInt_natCast, BitVec.ofNat_toNat, BitVec.setWidth_eq]
theorem bv_and (x y : Int) : BitVec.ofInt IntKind.u32.bits (Go.bits .and .u32 x y) = BitVec.ofInt IntKind.u32.bits x &&& BitVec.ofInt IntKind.u32.bits y := bv_wrap _
theorem bv_or (x y : Int) : BitVec.ofInt IntKind.u32.bits (Go.bits .or .u32 x y) = BitVec.ofInt IntKind.u32.bits x ||| BitVec.ofInt IntKind.u32.bits y := bv_wrap _
theorem bv_xor (x y : Int) : BitVec.ofInt IntKind.u32.bits (Go.bits .xor .u32 x y) = BitVec.ofInt IntKind.u32.bits x ^^^ BitVec.ofInt IntKind.u32.bits y := bv_wrap _
theorem xor_or {x y : Int} (h : BitVec.ofInt IntKind.u32.bits x ^^^ BitVec.ofInt IntKind.u32.bits y = BitVec.ofInt IntKind.u32.bits x ||| BitVec.ofInt IntKind.u32.bits y) : Go.bits .xor .u32 x y = Go.bits .or .u32 x y := by
  unfold Go.bits
  simp only [h]
theorem not_sub {e : Int} (h0 : 0 ≤ e) (h1 : e < 4294967296) : Go.bits .xor .u32 4294967295 e = (4294967295 - e) % 4294967296 := by
  have ha : BitVec.ofInt IntKind.u32.bits 4294967295 = BitVec.allOnes IntKind.u32.bits := by decide
  unfold Go.bits
  simp only [ha, BitVec.allOnes_xor, BitVec.toNat_not, u32w]
  have e2 : (BitVec.ofInt IntKind.u32.bits e).toNat = e.toNat := by
    rw [BitVec.toNat_ofInt]
    have : ((2 ^ IntKind.u32.bits : Nat) : Int) = 4294967296 := rfl
    rw [this, Int.emod_eq_of_lt h0 h1]
  rw [e2]
  have e3 : 2 ^ IntKind.u32.bits = 4294967296 := rfl
  omega
/-- Three turns, together; the choice; the majority. -/
def rot3 (x : Int) (a b c : Nat) : Int := Go.bits .xor .u32 (Go.bits .xor .u32 (rotF x a) (rotF x b)) (rotF x c)
def chF (e f g : Int) : Int := Go.bits .or .u32 (Go.bits .and .u32 e f) (Go.bits .and .u32 ((4294967295 - e) % 4294967296) g)
def majF (a b c : Int) : Int := Go.bits .or .u32 (Go.bits .or .u32 (Go.bits .and .u32 a b) (Go.bits .and .u32 a c)) (Go.bits .and .u32 b c)
theorem ch_eq {e f g : Int} (h0 : 0 ≤ e) (h1 : e < 4294967296) : Go.bits .xor .u32 (Go.bits .and .u32 e f) (Go.bits .and .u32 (Go.bits .xor .u32 4294967295 e) g) = chF e f g := by
  unfold chF
  rw [← not_sub h0 h1]
  refine xor_or ?_
  simp only [bv_and, bv_xor]
  have ha : BitVec.ofInt IntKind.u32.bits 4294967295 = BitVec.allOnes IntKind.u32.bits := by decide
  rw [ha, BitVec.allOnes_xor]
  refine BitVec.eq_of_getLsbD_eq fun i hi => ?_
  simp only [BitVec.getLsbD_xor, BitVec.getLsbD_or, BitVec.getLsbD_and, BitVec.getLsbD_not, hi, decide_true, Bool.true_and]
  cases (BitVec.ofInt IntKind.u32.bits e).getLsbD i <;> cases (BitVec.ofInt IntKind.u32.bits f).getLsbD i <;> cases (BitVec.ofInt IntKind.u32.bits g).getLsbD i <;> rfl
theorem maj_eq (a b c : Int) : Go.bits .xor .u32 (Go.bits .xor .u32 (Go.bits .and .u32 a b) (Go.bits .and .u32 a c)) (Go.bits .and .u32 b c) = majF a b c := by
  have h : BitVec.ofInt IntKind.u32.bits (Go.bits .xor .u32 (Go.bits .xor .u32 (Go.bits .and .u32 a b) (Go.bits .and .u32 a c)) (Go.bits .and .u32 b c)) = BitVec.ofInt IntKind.u32.bits (majF a b c) := by
    unfold majF
    simp only [bv_and, bv_xor, bv_or]
    refine BitVec.eq_of_getLsbD_eq fun i hi => ?_
    simp only [BitVec.getLsbD_xor, BitVec.getLsbD_or, BitVec.getLsbD_and]
    cases (BitVec.ofInt IntKind.u32.bits a).getLsbD i <;> cases (BitVec.ofInt IntKind.u32.bits b).getLsbD i <;> cases (BitVec.ofInt IntKind.u32.bits c).getLsbD i <;> rfl
  have h2 := congrArg BitVec.toNat h
  rw [BitVec.toNat_ofInt, BitVec.toNat_ofInt] at h2
  have e3 : ((2 ^ IntKind.u32.bits : Nat) : Int) = 4294967296 := rfl
  rw [e3] at h2
  have r1 := bits_range .xor (Go.bits .xor .u32 (Go.bits .and .u32 a b) (Go.bits .and .u32 a c)) (Go.bits .and .u32 b c)
  have r2 : 0 ≤ majF a b c ∧ majF a b c < 4294967296 := bits_range _ _ _
  rw [Int.emod_eq_of_lt r1.1 r1.2, Int.emod_eq_of_lt r2.1 r2.2] at h2
  omega
def lowF (e f g : Int) : Int := (rot3 e 6 11 25 + chF e f g) % 4294967296
def highF (a b c : Int) : Int := (rot3 a 2 13 22 + majF a b c) % 4294967296
theorem mix_ok {x : Int} (h0 : 0 ≤ x) (h1 : x < 4294967296) (a b c : Nat) (ha : a < 32) (hb : b < 32) (hc : c < 32) : comp_mix.f x a b c = some (rot3 x a b c) := by
  unfold comp_mix.f
  rw [rotate_ok h0 h1, bs, rotate_ok h0 h1, bs, rotate_ok h0 h1, bs, show ((a : Int) % 32).toNat = a by omega, show ((b : Int) % 32).toNat = b by omega, show ((c : Int) % 32).toNat = c by omega]
  rfl
theorem low_ok {e f g : Int} (h0 : 0 ≤ e) (h1 : e < 4294967296) : comp_low.f e f g = some (lowF e f g) := by
  unfold comp_low.f
  have := mix_ok h0 h1 6 11 25 (by decide) (by decide) (by decide)
  rw [show comp_mix.f e 6 11 25 = some (rot3 e 6 11 25) from this, bs, ch_eq h0 h1]
  rfl
theorem high_ok {a b c : Int} (h0 : 0 ≤ a) (h1 : a < 4294967296) : comp_high.f a b c = some (highF a b c) := by
  unfold comp_high.f
  have := mix_ok h0 h1 2 13 22 (by decide) (by decide) (by decide)
  rw [show comp_mix.f a 2 13 22 = some (rot3 a 2 13 22) from this, bs, maj_eq]
  rfl
theorem part7 (l : List Int) (o : Nat) (h : o + 7 ≤ 8) : Ar.part 8 l o 7 = [Ar.get 8 l o, Ar.get 8 l (o + 1 : Nat), Ar.get 8 l (o + 2 : Nat), Ar.get 8 l (o + 3 : Nat), Ar.get 8 l (o + 4 : Nat), Ar.get 8 l (o + 5 : Nat), Ar.get 8 l (o + 6 : Nat)] := by
  have hl : (Ar.fit 8 l).length = 8 := Ar.fit_len 8 l
  unfold Ar.part Ar.get
  rw [drop_step (n := o) (by omega), drop_step (n := o + 1) (by omega), drop_step (n := o + 1 + 1) (by omega), drop_step (n := o + 1 + 1 + 1) (by omega), drop_step (n := o + 1 + 1 + 1 + 1) (by omega), drop_step (n := o + 1 + 1 + 1 + 1 + 1) (by omega), drop_step (n := o + 1 + 1 + 1 + 1 + 1 + 1) (by omega)]
  simp only [List.take_succ_cons, List.take_zero]
theorem part7_0 (l : List Int) : Ar.part 8 l 0 7 = [Ar.get 8 l 0, Ar.get 8 l 1, Ar.get 8 l 2, Ar.get 8 l 3, Ar.get 8 l 4, Ar.get 8 l 5, Ar.get 8 l 6] := by
  have h := part7 l 0 (by omega)
  simpa only [Nat.zero_add, Int.cast_ofNat_Int] using h
theorem part7_1 (l : List Int) : Ar.part 8 l 1 7 = [Ar.get 8 l 1, Ar.get 8 l 2, Ar.get 8 l 3, Ar.get 8 l 4, Ar.get 8 l 5, Ar.get 8 l 6, Ar.get 8 l 7] := by
  have h := part7 l 1 (by omega)
  simpa only [Nat.reduceAdd, Int.cast_ofNat_Int] using h
theorem lay1 (a b c d e f g : Int) : Ar.putAll 8 (List.replicate 8 0) 1 [a, b, c, d, e, f, g] = [0, a, b, c, d, e, f, g] := by simp [Ar.putAll, Ar.set, Ar.fit, List.replicate]
theorem lay0 (a b c d e f g : Int) : Ar.putAll 8 (List.replicate 8 0) 0 [a, b, c, d, e, f, g] = [a, b, c, d, e, f, g, 0] := by simp [Ar.putAll, Ar.set, Ar.fit, List.replicate]
theorem set0 (x a b c d e f g h : Int) : Ar.set 8 [a, b, c, d, e, f, g, h] 0 x = [x, b, c, d, e, f, g, h] := rfl
theorem set3 (x a b c d e f g h : Int) : Ar.set 8 [a, b, c, d, e, f, g, h] 3 x = [a, b, c, x, e, f, g, h] := rfl
theorem set4 (x a b c d e f g h : Int) : Ar.set 8 [a, b, c, d, e, f, g, h] 4 x = [a, b, c, d, x, f, g, h] := rfl
theorem set7 (x a b c d e f g h : Int) : Ar.set 8 [a, b, c, d, e, f, g, h] 7 x = [a, b, c, d, e, f, g, x] := rfl
theorem get8 (a b c d e f g h : Int) : Ar.get 8 [a, b, c, d, e, f, g, h] 0 = a ∧ Ar.get 8 [a, b, c, d, e, f, g, h] 1 = b ∧ Ar.get 8 [a, b, c, d, e, f, g, h] 2 = c ∧ Ar.get 8 [a, b, c, d, e, f, g, h] 3 = d ∧ Ar.get 8 [a, b, c, d, e, f, g, h] 4 = e ∧ Ar.get 8 [a, b, c, d, e, f, g, h] 5 = f ∧ Ar.get 8 [a, b, c, d, e, f, g, h] 6 = g ∧ Ar.get 8 [a, b, c, d, e, f, g, h] 7 = h := ⟨rfl, rfl, rfl, rfl, rfl, rfl, rfl, rfl⟩
theorem get8_4 (a b c d e f g h : Int) : Ar.get 8 [a, b, c, d, e, f, g, h] 4 = e := rfl
/-- What is added in a round; the state behind it; the state ahead of one. -/
def tee (s : List Int) (w k : Int) : Int := (((Ar.get 8 s 7 + lowF (Ar.get 8 s 4) (Ar.get 8 s 5) (Ar.get 8 s 6)) % 4294967296 + k) % 4294967296 + w) % 4294967296
def rnd (s : List Int) (w k : Int) : List Int := [(tee s w k + highF (Ar.get 8 s 0) (Ar.get 8 s 1) (Ar.get 8 s 2)) % 4294967296, Ar.get 8 s 0, Ar.get 8 s 1, Ar.get 8 s 2, (Ar.get 8 s 3 + tee s w k) % 4294967296, Ar.get 8 s 4, Ar.get 8 s 5, Ar.get 8 s 6]
def off (s : List Int) : Int := (Ar.get 8 s 0 - highF (Ar.get 8 s 1) (Ar.get 8 s 2) (Ar.get 8 s 3)) % 4294967296
def bck (s : List Int) (w k : Int) : List Int := [Ar.get 8 s 1, Ar.get 8 s 2, Ar.get 8 s 3, (Ar.get 8 s 4 - off s) % 4294967296, Ar.get 8 s 5, Ar.get 8 s 6, Ar.get 8 s 7, (((off s - lowF (Ar.get 8 s 5) (Ar.get 8 s 6) (Ar.get 8 s 7)) % 4294967296 - k) % 4294967296 - w) % 4294967296]
theorem Round_ok {s : List Int} (hs : InR 8 4294967296 s) (w k : Int) : comp_Round.f s w k = some (rnd s w k) := by
  unfold comp_Round.f
  rw [low_ok (hs 4).1 (hs 4).2, bs, high_ok (hs 0).1 (hs 0).2, bs, bs, part7_0, lay1, set0, get8_4, set4]
  rfl
theorem Back_ok4 {s : List Int} (hs : InR 8 4294967296 s) (w k : Int) : comp_Back.f s w k = some (bck s w k) := by
  unfold comp_Back.f
  rw [bs, part7_1, lay0]
  obtain ⟨g0, g1, g2, _, g4, g5, g6, _⟩ := get8 (Ar.get 8 s 1) (Ar.get 8 s 2) (Ar.get 8 s 3) (Ar.get 8 s 4) (Ar.get 8 s 5) (Ar.get 8 s 6) (Ar.get 8 s 7) 0
  rw [g0, g1, g2, g4, g5, g6, high_ok (hs 1).1 (hs 1).2, bs, low_ok (hs 5).1 (hs 5).2, bs, set3, set7]
  rfl
theorem InR.lit {a b c d e f g h : Int} (H : ∀ x ∈ [a, b, c, d, e, f, g, h], 0 ≤ x ∧ x < 4294967296) : InR 8 4294967296 [a, b, c, d, e, f, g, h] := InR.of_mem (by decide) rfl H
theorem rnd_in {s : List Int} (hs : InR 8 4294967296 s) (w k : Int) : InR 8 4294967296 (rnd s w k) := by
  refine InR.lit ?_
  simp only [List.mem_cons, List.not_mem_nil, or_false, forall_eq_or_imp, forall_eq]
  exact ⟨by omega, hs 0, hs 1, hs 2, by omega, hs 4, hs 5, hs 6⟩
theorem bck_in {s : List Int} (hs : InR 8 4294967296 s) (w k : Int) : InR 8 4294967296 (bck s w k) := by
  refine InR.lit ?_
  simp only [List.mem_cons, List.not_mem_nil, or_false, forall_eq_or_imp, forall_eq]
  exact ⟨hs 1, hs 2, hs 3, by omega, hs 5, hs 6, hs 7, by omega⟩
theorem rnd_get (s : List Int) (w k : Int) : Ar.get 8 (rnd s w k) 0 = (tee s w k + highF (Ar.get 8 s 0) (Ar.get 8 s 1) (Ar.get 8 s 2)) % 4294967296 ∧ Ar.get 8 (rnd s w k) 1 = Ar.get 8 s 0 ∧ Ar.get 8 (rnd s w k) 2 = Ar.get 8 s 1 ∧ Ar.get 8 (rnd s w k) 3 = Ar.get 8 s 2 ∧ Ar.get 8 (rnd s w k) 4 = (Ar.get 8 s 3 + tee s w k) % 4294967296 ∧ Ar.get 8 (rnd s w k) 5 = Ar.get 8 s 4 ∧ Ar.get 8 (rnd s w k) 6 = Ar.get 8 s 5 ∧ Ar.get 8 (rnd s w k) 7 = Ar.get 8 s 6 := get8 _ _ _ _ _ _ _ _
theorem bck_get (s : List Int) (w k : Int) : Ar.get 8 (bck s w k) 0 = Ar.get 8 s 1 ∧ Ar.get 8 (bck s w k) 1 = Ar.get 8 s 2 ∧ Ar.get 8 (bck s w k) 2 = Ar.get 8 s 3 ∧ Ar.get 8 (bck s w k) 3 = (Ar.get 8 s 4 - off s) % 4294967296 ∧ Ar.get 8 (bck s w k) 4 = Ar.get 8 s 5 ∧ Ar.get 8 (bck s w k) 5 = Ar.get 8 s 6 ∧ Ar.get 8 (bck s w k) 6 = Ar.get 8 s 7 ∧ Ar.get 8 (bck s w k) 7 = (((off s - lowF (Ar.get 8 s 5) (Ar.get 8 s 6) (Ar.get 8 s 7)) % 4294967296 - k) % 4294967296 - w) % 4294967296 := get8 _ _ _ _ _ _ _ _
theorem alive04 (k : Nat) (hk : 100 ≤ k) : drawlotlaw04_alive.f k = some true := at_rounds (g := fun k => drawlotlaw04_alive.f k) (fun k => drawlotlaw04_alive.mono k) (k := 100) (k' := k) hk (r := true) (by decide +kernel)
end Go.Proofs.Ytpkdpdbcgbeakaa.Lm
