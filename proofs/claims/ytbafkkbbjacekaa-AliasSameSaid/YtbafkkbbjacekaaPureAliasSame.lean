/- Whether any two tables are the same is the document's; the statement over lists alone. No conditions. -/
import Derived.Test.YtbafkkbbjacekaaPBx12
import Derived.Test.YtbafkkbbjacekaaLmAliasS
namespace Go.Proofs.Ytbafkkbbjacekaa.Pure
open Go.RowKit Go.Proofs.Ytbafkkbbjacekaa.PB Go.Proofs.YtbafkkbbjacekaaW.PrintWords Go.Proofs.YtbafkkbbjacekaaW.PrintLast Go.Proofs.Ytbafkkbbjacekaa.Lm
theorem alive14 (k : Nat) (hk : 30 ≤ k) : drawlotlaw14_alive.f k = some true := at_rounds (g := fun k => drawlotlaw14_alive.f k) (fun k => drawlotlaw14_alive.mono k) (k := 30) (k' := k) hk (r := true) (by decide +kernel)
theorem AliasSame : drawlotlaw14_AliasSame.Pure := by
  intro T a U b hT ha hU hb
  refine ⟨a.length + b.length + 40, ?_⟩
  unfold drawlotlaw14_AliasSame.f
  rw [alive14 _ (by omega), bs, if_pos rfl]
  by_cases h : (a.length : Int) > 300
  · rw [if_pos h]
  · rw [if_neg h]
    by_cases g : (b.length : Int) > 300
    · rw [if_pos g]
    · rw [if_neg g]
      obtain ⟨r, h1, h2⟩ := same_okA (a.length + b.length + 40) T U a b (by omega) (by omega)
      obtain ⟨s, g1, g2⟩ := rsame_okT (a.length + b.length + 40) T U a b (by omega) (by omega)
      obtain ⟨t, e1, e2⟩ := same_okA (a.length + b.length + 40) T T a a (by omega) (by omega)
      obtain rfl : t = true := e2.mpr ⟨rfl, rfl⟩
      obtain rfl : r = s := by
        cases r <;> cases s <;> simp_all
      rw [h1, bs, g1, bs, if_pos (by simp), e1, bs]
end Go.Proofs.Ytbafkkbbjacekaa.Pure
