/- Written by xprint.py, this session's own driver, for the seat Ytbafkkbbjacekaa: contracts of Go functions, each saying that a call answers what a plain Lean function of the same name says, and, in a text named Law, the row of a law: its Go function answers true for every input. No conditions. -/
import Derived.Test.YtbafkkbbjacekaaRows
import Derived.Test.YtbafkkbbjacekaaPBx11
import Derived.Test.YtbafkkbbjacekaaPureAliasAsks
import Derived.WalkKit
import Derived.ProofKit
import Derived.OpenShut
import Derived.ShutString
import Derived.ChangeOld
import Derived.Below
import Derived.SizedLaws
import Derived.Test.YtbafkkbbjacekaaWSized
import Derived.Test.YtbafkkbbjacekaaOpn
namespace Go.Proofs.Ytbafkkbbjacekaa.aliasAsks
open Go.ChangeShapes Go.WideShapes Go.ChangeAt Go.RowKit
open Go.ChangeMaps (open_string shut_string)
set_option linter.unusedVariables false
theorem own : ownKnob Try.prog.godebug = none := by kernel_rfl
theorem laidOut : laidOutB Try.prog = true := by kernel_rfl
def IsRow (k : IntKind) (w : World) (a : Option Addr) (len cap : Nat) (zs : List Int) : Prop :=
  (a = none ∧ len = 0 ∧ cap = 0 ∧ zs = []) ∨
  ∃ x, a = some x ∧ len ≤ cap ∧ cap ≤ maxLen ∧ zs.length = cap ∧ (∀ i, i < zs.length → w.cell? (x.add i) = some (.int k (zs.getD i 0))) ∧ ∀ n ∈ zs, (Lit.int k n).wf = true
set_option maxRecDepth 100000 in
theorem lifted (os : Os) (started : os.Started) (H : Type) (enc : TypeId × Value → H) :
    ReturnsInHanded {} Try.checked os 4 .any (Rows.aliasAsksSpec.pre6 enc Try.prog Try.f4 Rows.aliasAsksRow.domain false) (Rows.aliasAsksSpec.post enc Try.prog Try.f4 false true false false) := by
  refine returnsInHanded_of_change_sized (C := Try.checked) own started (by kernel_rfl) Try.func4
    (ChangeSpec.witness6 (enc := enc) (C := Try.checked) false ⟨#[], #[.agg #[.int .u64 0, .slice none 0 0], .int .i64 0, .int .u64 0], []⟩ 8 (by kernel_rfl) (by kernel_rfl) (by kernel_rfl) (by kernel_rfl)) ?_
  intro W base args ds gs before hval0 hW hcnd hsz0 _
  have hsz : (DataW.weightsEach Try.prog (Try.f4.params.toList ++ Rows.aliasAsksSpec.plain.varTypes Try.prog) (ds ++ gs)).all (· ≤ reachBytes) = true := hsz0
  have hval : ∀ (j : Nat) t v, Try.f4.params[j]? = some t → args[j]? = some v → Value.okWide Try.prog W .any base t v := hval0
  have hW' := hW
  obtain ⟨p, q, hA0, hV, rfl, hfz, hnd⟩ := hW
  have hA : DataW.TrodAll enc Try.prog W 0 (fun _ => true) true Try.f4.params.toList args.toList ds p := hA0
  rw [Try.params4] at hA hval hsz
  obtain ⟨v0, vs0, d0, ds0, p0, q0, hargs, rfl, rfl, h0, r0⟩ := trodAll_cons hA
  obtain ⟨v1, vs1, d1, ds1, p1, q1, rfl, rfl, rfl, h1, r1⟩ := trodAll_cons r0
  obtain ⟨v2, vs2, d2, ds2, p2, q2, rfl, rfl, rfl, h2, r2⟩ := trodAll_cons r1
  obtain ⟨rfl, rfl, rfl⟩ := trodAll_nil r2
  obtain rfl : args = #[v0, v1, v2] := by cases args; simp_all
  obtain ⟨rfl, rfl⟩ := trodVars_none hV
  have kk0 := h0
  have lt0 : ∀ x ∈ p0, x.block < W.heap.size := by obtain ⟨m, hm⟩ := kk0; exact DataW.trod_lt m _ _ _ hm
  obtain ⟨u0_0, u0_1, y0_0, y0_1, n0_, rfl, rfl, rfl, g0_0, g0_1⟩ := Joins.open_agg2 Try.underlying27 (by kernel_rfl) (by kernel_rfl) (hval 0 27 v0 rfl rfl) h0
  obtain ⟨a0_0, e0_0, _, w0_0⟩ := DataW.trod_int Try.underlying24 g0_0
  obtain rfl : u0_0 = .int .u64 a0_0 := by simpa using e0_0
  obtain ⟨A0_1, c0_1, l0_1, e0_1, hr0_1, hl0_1, hw0_1⟩ := Opn.open_row (wf := fun x : Go.Proofs.Ytbafkkbbjacekaa.PB.S62 => ((Lit.int .u64 x.f0).wf = true ∧ (Lit.int .i64 x.f1).wf = true)) Try.underlying25 (by kernel_rfl) (Opn.opens_two Try.underlying62 (by kernel_rfl) (by kernel_rfl) Try.underlying24 Try.underlying3 (fun a b => (⟨a, b⟩ : Go.Proofs.Ytbafkkbbjacekaa.PB.S62)) (fun a b => Go.Proofs.Ytbafkkbbjacekaa.PB.k62_mk _ ⟨a, b⟩) (wf := fun x : Go.Proofs.Ytbafkkbbjacekaa.PB.S62 => ((Lit.int .u64 x.f0).wf = true ∧ (Lit.int .i64 x.f1).wf = true)) (fun a b h0 h1 => ⟨h0, h1⟩)) g0_1
  obtain rfl : u0_1 = .slice A0_1 l0_1.length c0_1 := by simpa using e0_1
  have w0_1 : Go.Proofs.YtbafkkbbjacekaaW.PrintWords.Kd.C Go.Proofs.Ytbafkkbbjacekaa.PB.k62 W A0_1 l0_1.length l0_1 ∧ l0_1.length ≤ c0_1 ∧ (l0_1.length ≤ maxLen ∧ ∀ x ∈ l0_1, ((Lit.int .u64 x.f0).wf = true ∧ (Lit.int .i64 x.f1).wf = true)) := ⟨hr0_1, hl0_1, hw0_1⟩
  obtain ⟨a1, rfl, rfl, rfl, w1⟩ := open_int Try.underlying3 (hval 1 3 v1 rfl rfl) h1
  obtain ⟨a2, rfl, rfl, rfl, w2⟩ := open_int Try.underlying24 (hval 2 24 v2 rfl rfl) h2
  clear hA0 hval0 hsz0 hsz
  refine (PB.drawlotlaw14_AliasAsks.walk Pure.AliasAsks a0_0 A0_1 c0_1 l0_1 a1 a2 W w0_0 w0_1 w1 w2).mono fun e W' ⟨he, bel⟩ => ?_
  subst he
  exact ⟨_, rfl, _, _, _, [], _, [], hW', trodAll_mk1 (shut_bool Try.underlying4 _), (trodAll_cons_mk (Below.trod laidOut (by kernel_rfl) (of_decide_eq_true (by kernel_rfl)) kk0 bel lt0) (trodAll_cons_mk (shut_int Try.underlying3 w1) (trodAll_cons_mk (shut_int Try.underlying24 w2) trodAll_mk0))), rfl, bel.frame _, fun h => by cases h⟩
theorem over : Rows.aliasAsksRow.holds Try.pinned (OpenSpec.ofChange Rows.aliasAsksSpec) :=
  OpenClaim.holds_of_wide 4 Try.f4 rfl rfl rfl rfl rfl rfl rfl ⟨rfl, rfl, rfl, rfl, rfl⟩ rfl rfl rfl rfl rfl (by kernel_rfl) Try.func4 (by kernel_rfl)
    (of_decide_eq_true (by kernel_rfl)) (by unfold Func.isWrapper; first | (rw [if_pos (by decide +kernel)]; kernel_rfl) | (rw [if_neg (by decide +kernel)]; exact ⟨rfl, rfl⟩))
    (fun os started H enc _ => lifted os started H enc)
theorem proved : Rows.AliasAsksSaid := over
#print axioms proved
end Go.Proofs.Ytbafkkbbjacekaa.aliasAsks
namespace Go.Proofs.Ytbafkkbbjacekaa
/-- The row, under a short name, for the claim. -/
theorem aliasAsks_holds : Rows.AliasAsksSaid := aliasAsks.proved
end Go.Proofs.Ytbafkkbbjacekaa
