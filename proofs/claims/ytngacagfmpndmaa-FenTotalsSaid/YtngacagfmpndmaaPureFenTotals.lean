/- Another stake changes the sum, and the prefixes behind it, by just what it differs; the statement over lists alone. No conditions. -/
import Derived.Test.YtngacagfmpndmaaPFx18
import Derived.Test.YtngacagfmpndmaaLmFenR
namespace Go.Proofs.Ytngacagfmpndmaa.Pure
open Go.RowKit Go.Proofs.Ytngacagfmpndmaa.PF Go.Proofs.YtngacagfmpndmaaW.PrintWords Go.Proofs.YtngacagfmpndmaaW.PrintLast Go.Proofs.Ytngacagfmpndmaa.Lm
theorem alive11 (k : Nat) (hk : 80 ≤ k) : drawlotlaw11_alive.f k = some true := at_rounds (g := fun k => drawlotlaw11_alive.f k) (fun k => drawlotlaw11_alive.mono k) (k := 80) (k' := k) hk (r := true) (by decide +kernel)
theorem totals_l {l : List Int} (hl : U64 l) (hs : l.sum < 9223372036854775808) (hm : l.length < 301) (i : Nat) (hi : i < l.length) (x : Int) (hx : 0 ≤ x ∧ x < 18446744073709551616) (hs' : (l.set i x).sum < 9223372036854775808) :
    ∀ (d k n : Nat), n + d = l.length + 1 → d + 400 < k → drawlotlaw11_FenTotals.l0 k l x (i : Int) (n : Int) (tre l) (tre (l.set i x)) = some true := by
  have hl' := set_U64 hl i x hx
  have hlen : (l.set i x).length = l.length := List.length_set
  have hr := hl.rd (i : Int)
  have hi1 := P_succ hi
  have hb0 := P_nonneg hl i
  intro d
  induction d with
  | zero =>
    intro k n hn hk
    obtain ⟨k, rfl⟩ : ∃ m, k = m + 1 := ⟨k - 1, by omega⟩
    simp only [drawlotlaw11_FenTotals.l0]
    have hb := P_le hl (i + 1)
    have hsum := sum_set hi x
    rw [if_neg (by omega), ftotal_ok hl' hs' (by omega) k (by omega), bs, ftotal_ok hl hs (by omega) k (by omega), bs, if_pos (by omega), if_pos (by omega), u64w_id (x := l.sum - rd l (i : Int)) (by omega) (by omega), u64w_id (by omega) (by omega), hsum, beq_self_eq_true]
  | succ d ih =>
    intro k n hn hk
    obtain ⟨k, rfl⟩ : ∃ m, k = m + 1 := ⟨k - 1, by omega⟩
    simp only [drawlotlaw11_FenTotals.l0]
    have q := P_set hi x n
    have hb := P_le hl n
    have hb2 := P_le hl' n
    have hb3 := P_nonneg hl n
    have hb4 := P_nonneg hl' n
    rw [if_pos (by omega), fPrefix_at hl hs (by omega) k (by omega) n (by omega), bs, fPrefix_at hl' hs' (by omega) k (by omega) n (by omega), bs]
    by_cases c : n ≤ i
    · rw [if_neg (by omega)] at q
      rw [if_pos (by omega), if_pos (by omega), if_neg (by omega), w64_id (by omega) (by omega)]
      exact ih k (n + 1) (by omega) (by omega)
    · rw [if_pos (by omega)] at q
      have hb5 := P_mono hl (a := i + 1) (b := n) (by omega)
      rw [if_neg (by omega), if_pos (by omega), if_pos (by omega), if_pos (by omega), u64w_id (x := P l n - rd l (i : Int)) (by omega) (by omega), u64w_id (by omega) (by omega), if_pos (by omega), w64_id (by omega) (by omega)]
      exact ih k (n + 1) (by omega) (by omega)
theorem FenTotals : drawlotlaw11_FenTotals.Pure := by
  intro l i x hm hs hw hi hx
  have hu := U64.of_wf hw
  have hx := wf64 hx
  have hi := wf16 hi
  refine ⟨2 * l.length + 800, ?_⟩
  unfold drawlotlaw11_FenTotals.f
  rw [alive11 _ (by omega), bs, if_pos rfl]
  by_cases h : (l.length : Int) > 300
  · rw [if_pos h]
  · rw [if_neg h]
    by_cases z : (l.length : Int) = 0
    · rw [if_pos z]
    · rw [if_neg z, build_ok _ l hu (by omega) (by omega), bs]
      by_cases c : l.sum < 9223372036854775808
      · rw [if_pos c, if_pos rfl]
        obtain ⟨n, hn⟩ := Int.eq_ofNat_of_zero_le (show 0 ≤ i % (l.length : Int) from Int.emod_nonneg _ z)
        have hlt := Int.emod_lt_of_pos i (show 0 < (l.length : Int) by omega)
        have e : Int.tmod (wrap64 i) (l.length : Int) = (n : Int) := by rw [w64_id (by omega) (by omega), Int.tmod_eq_emod_of_nonneg (by omega)]; exact hn
        rw [e, fset_ok hu c (by omega) _ (by omega) (n : Int) x hx, bs, if_pos (show 0 ≤ (n : Int) ∧ (n : Int) < l.length by omega), Int.toNat_natCast]
        by_cases d : (l.set n x).sum < 9223372036854775808
        · rw [if_pos d, if_pos rfl]
          have t := totals_l hu c (by omega) n (by omega) x hx d (l.length + 1) (2 * l.length + 800) 0 (by omega) (by omega)
          exact t
        · rw [if_neg d]
          simp
      · rw [if_neg c]
        simp
end Go.Proofs.Ytngacagfmpndmaa.Pure
