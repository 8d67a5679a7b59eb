/- What any table tells is the document's, or refused; the statement over lists alone. No conditions. -/
import Derived.Test.YtbafkkbbjacekaaPBx11
import Derived.Test.YtbafkkbbjacekaaLmAliasR
namespace Go.Proofs.Ytbafkkbbjacekaa.Pure
open Go.RowKit Go.Proofs.Ytbafkkbbjacekaa.PB Go.Proofs.YtbafkkbbjacekaaW.PrintWords Go.Proofs.YtbafkkbbjacekaaW.PrintLast Go.Proofs.Ytbafkkbbjacekaa.Lm
theorem alive14 (k : Nat) (hk : 30 ≤ k) : drawlotlaw14_alive.f k = some true := at_rounds (g := fun k => drawlotlaw14_alive.f k) (fun k => drawlotlaw14_alive.mono k) (k := 30) (k' := k) hk (r := true) (by decide +kernel)
theorem AliasAsks : drawlotlaw14_AliasAsks.Pure := by
  intro T cl i u hT hcl hi hu
  have hT := wf64 hT
  have hu := wf64 hu
  have hw : W62 cl := fun c hc => wf64 (hcl.2 c hc).1
  refine ⟨cl.length + 40, ?_⟩
  unfold drawlotlaw14_AliasAsks.f
  rw [alive14 _ (by omega), bs, if_pos rfl]
  by_cases h : (cl.length : Int) > 300
  · rw [if_pos h]
  · have hm : cl.length < 9223372036854775807 := by omega
    rw [if_neg h, lookup_ok _ T cl hT (by omega) hm, bs, rlookup_ok _ T cl hT (by omega) hm, bs, owner_okA _ T cl hT (by omega) hm u hu, bs, rowner_ok _ T cl hT (by omega) hm u hu, bs, owns_ok _ T cl hT (by omega) hm hw, bs, rowns_ok _ T cl hT (by omega) hm, bs]
    rw [if_pos rfl, if_pos rfl, if_pos rfl, if_pos rfl, if_pos rfl, if_pos rfl, right_ok _ T cl hT (by omega) hm, bs, rright_ok _ T cl hT (by omega) hm, bs, if_pos (by simp), size_ok _ T cl hT (by omega) hm, bs, rsize_ok _ T cl hT (by omega) hm, bs]
    simp
end Go.Proofs.Ytbafkkbbjacekaa.Pure
