/- The table of any stakes is the document's, or refused; the statement over lists alone. No conditions. -/
import Derived.Test.YtbafkkbbjacekaaPBx10
import Derived.Test.YtbafkkbbjacekaaLmAliasR
namespace Go.Proofs.Ytbafkkbbjacekaa.Pure
open Go.RowKit Go.Proofs.Ytbafkkbbjacekaa.PB Go.Proofs.YtbafkkbbjacekaaW.PrintWords Go.Proofs.YtbafkkbbjacekaaW.PrintLast Go.Proofs.Ytbafkkbbjacekaa.Lm
theorem alive14 (k : Nat) (hk : 30 ≤ k) : drawlotlaw14_alive.f k = some true := at_rounds (g := fun k => drawlotlaw14_alive.f k) (fun k => drawlotlaw14_alive.mono k) (k := 30) (k' := k) hk (r := true) (by decide +kernel)
theorem tab_len : ∀ (d : Nat) (T : Int) (hs : List Int) (cl : List S62) (sm lg : List Int), (fin d T hs cl sm lg).length = cl.length := by
  intro d
  induction d with
  | zero => intros; rfl
  | succ d ih =>
    intro T hs cl sm lg
    simp only [fin]
    split
    · rw [ih, List.length_set]
    · rfl
theorem build_len (l : List Int) : (buildS l).2.1.length ≤ l.length := by
  unfold buildS
  split
  · simp
  · split
    · split
      · simp
      · split
        · simp only [tabS, tab_len, cl0_len]; omega
        · simp
    · simp
theorem AliasBuilds : drawlotlaw14_AliasBuilds.Pure := by
  intro l hm hb hw
  have hl := U64.of_wf hw
  refine ⟨3 * l.length + 40, ?_⟩
  unfold drawlotlaw14_AliasBuilds.f
  rw [alive14 _ (by omega), bs, if_pos rfl]
  by_cases h : (l.length : Int) > 300
  · rw [if_pos h]
  · rw [if_neg h, bs, List.length_nil, Nat.zero_add, if_pos (by omega), List.nil_append, bs, buildA_ok _ l hl (by omega) (by omega), bs, rbuild_ok _ l hl (by omega) (by omega), bs]
    have hlen := build_len l
    obtain ⟨r, h1, h2⟩ := rsame_okT (3 * l.length + 40) (buildS l).1 (buildS l).1 (buildS l).2.1 (buildS l).2.1 (by omega) (by omega)
    obtain rfl : r = true := h2.mpr ⟨rfl, rfl⟩
    rw [h1, bs, if_pos rfl, if_pos rfl, same_ok _ l l (by omega) (by omega), bs, decide_eq_true rfl]
end Go.Proofs.Ytbafkkbbjacekaa.Pure
