/- Written by xprint.py, this session's own driver, for the seat Ytkbpdnhbmceajaa: contracts of Go functions, each saying that a call answers what a plain Lean function of the same name says, and, in a text named Law, the row of a law: its Go function answers true for every input. No conditions. -/
import Derived.Test.YtkbpdnhbmceajaaRows
import Derived.Test.YtkbpdnhbmceajaaPQx13
import Derived.Test.YtkbpdnhbmceajaaPureOpBack
import Derived.WalkKit
import Derived.ProofKit
import Derived.OpenShut
import Derived.ShutString
import Derived.ChangeOld
import Derived.Below
import Derived.SizedLaws
import Derived.Test.YtkbpdnhbmceajaaWSized
import Derived.Test.YtkbpdnhbmceajaaOpa
namespace Go.Proofs.Ytkbpdnhbmceajaa.opBack
open Go.ChangeShapes Go.WideShapes Go.ChangeAt Go.RowKit
open Go.ChangeMaps (open_string shut_string)
set_option linter.unusedVariables false
theorem own : ownKnob Try.prog.godebug = none := by kernel_rfl
theorem laidOut : laidOutB Try.prog = true := by kernel_rfl
def IsRow (k : IntKind) (w : World) (a : Option Addr) (len cap : Nat) (zs : List Int) : Prop :=
  (a = none ∧ len = 0 ∧ cap = 0 ∧ zs = []) ∨
  ∃ x, a = some x ∧ len ≤ cap ∧ cap ≤ maxLen ∧ zs.length = cap ∧ (∀ i, i < zs.length → w.cell? (x.add i) = some (.int k (zs.getD i 0))) ∧ ∀ n ∈ zs, (Lit.int k n).wf = true
theorem opens_S39 {H : Type} {enc : TypeId × Value → H} {w : World} {base : Nat} {spare : Nat → Bool} {held : Bool} : Opn.Opens enc Try.prog w base spare held Go.Proofs.Ytkbpdnhbmceajaa.PQ.k39 39 (fun x => ((Lit.int .i64 x.f0).wf = true ∧ (Lit.int .i64 x.f1).wf = true ∧ (Lit.int .u64 x.f2).wf = true ∧ (x.f3.length = 32 ∧ ∀ x_ ∈ x.f3, (Lit.int .u8 x_).wf = true) ∧ (Lit.int .i64 x.f4).wf = true)) := fun fuel cs y h => by
  obtain ⟨ys, n, _, _, hlen, hyl, hf⟩ := DataW.trod_struct Try.underlying39 h
  have hcl : cs.length = 36 := hlen.trans (by kernel_rfl)
  obtain ⟨y0, e0⟩ := Opn.field_ hf hyl 0 _ rfl (o := 0) (m := 1) rfl (by kernel_rfl)
  obtain ⟨x0, k0_, w0⟩ := (Opn.opens_int Try.underlying3) _ _ _ e0
  obtain ⟨y1, e1⟩ := Opn.field_ hf hyl 1 _ rfl (o := 1) (m := 1) rfl (by kernel_rfl)
  obtain ⟨x1, k1_, w1⟩ := (Opn.opens_int Try.underlying3) _ _ _ e1
  obtain ⟨y2, e2⟩ := Opn.field_ hf hyl 2 _ rfl (o := 2) (m := 1) rfl (by kernel_rfl)
  obtain ⟨x2, k2_, w2⟩ := (Opn.opens_int Try.underlying35) _ _ _ e2
  obtain ⟨y3, e3⟩ := Opn.field_ hf hyl 3 _ rfl (o := 3) (m := 32) rfl (by kernel_rfl)
  obtain ⟨x3, k3_, w3⟩ := (Opn.opens_arr Try.underlying37 Try.underlying5 (by kernel_rfl) (by kernel_rfl)) _ _ _ e3
  obtain ⟨y4, e4⟩ := Opn.field_ hf hyl 4 _ rfl (o := 35) (m := 1) rfl (by kernel_rfl)
  obtain ⟨x4, k4_, w4⟩ := (Opn.opens_int Try.underlying3) _ _ _ e4
  have hcs : cs = ((cs.drop 0).take 1) ++ (((cs.drop 1).take 1) ++ (((cs.drop 2).take 1) ++ (((cs.drop 3).take 32) ++ (((cs.drop 35).take 1))))) := by
    have z_ : cs = cs.drop 0 := rfl
    rw [List.take_of_length_le (i := 1) (l := cs.drop 35) (by rw [List.length_drop, hcl]; omega)]
    rw [← Opn.seg_ cs (o := 3) (m := 32), ← Opn.seg_ cs (o := 2) (m := 1), ← Opn.seg_ cs (o := 1) (m := 1), ← Opn.seg_ cs (o := 0) (m := 1)]
    exact z_
  refine ⟨⟨x0, x1, x2, x3, x4⟩, ?_, ⟨w0, w1, w2, w3, w4⟩⟩
  rw [hcs]
  exact ⟨_, _, rfl, k0_, ⟨_, _, rfl, k1_, ⟨_, _, rfl, k2_, ⟨_, _, rfl, k3_, k4_⟩⟩⟩⟩
set_option maxRecDepth 100000 in
theorem lifted (os : Os) (started : os.Started) (H : Type) (enc : TypeId × Value → H) :
    ReturnsInHanded {} Try.checked os 5 .any (Rows.opBackSpec.pre6 enc Try.prog Try.f5 Rows.opBackRow.domain false) (Rows.opBackSpec.post enc Try.prog Try.f5 false true false false) := by
  refine returnsInHanded_of_change_sized (C := Try.checked) own started (by kernel_rfl) Try.func5
    (ChangeSpec.witness6 (enc := enc) (C := Try.checked) false ⟨#[], #[.slice none 0 0, .slice none 0 0], []⟩ 8 (by kernel_rfl) (by kernel_rfl) (by kernel_rfl) (by kernel_rfl)) ?_
  intro W base args ds gs before hval0 hW hcnd hsz0 _
  have hsz : (DataW.weightsEach Try.prog (Try.f5.params.toList ++ Rows.opBackSpec.plain.varTypes Try.prog) (ds ++ gs)).all (· ≤ reachBytes) = true := hsz0
  have hval : ∀ (j : Nat) t v, Try.f5.params[j]? = some t → args[j]? = some v → Value.okWide Try.prog W .any base t v := hval0
  have hW' := hW
  obtain ⟨p, q, hA0, hV, rfl, hfz, hnd⟩ := hW
  have hA : DataW.TrodAll enc Try.prog W 0 (fun _ => true) true Try.f5.params.toList args.toList ds p := hA0
  rw [Try.params5] at hA hval hsz
  obtain ⟨v0, vs0, d0, ds0, p0, q0, hargs, rfl, rfl, h0, r0⟩ := trodAll_cons hA
  obtain ⟨v1, vs1, d1, ds1, p1, q1, rfl, rfl, rfl, h1, r1⟩ := trodAll_cons r0
  obtain ⟨rfl, rfl, rfl⟩ := trodAll_nil r1
  obtain rfl : args = #[v0, v1] := by cases args; simp_all
  obtain ⟨rfl, rfl⟩ := trodVars_none hV
  have kk0 := h0
  have lt0 : ∀ x ∈ p0, x.block < W.heap.size := by obtain ⟨m, hm⟩ := kk0; exact DataW.trod_lt m _ _ _ hm
  obtain ⟨A0, c0, l0, e0, w0⟩ : ∃ (A0 : Option Addr) (c0 : Nat) (l0 : List (Go.Proofs.Ytkbpdnhbmceajaa.PQ.S39)), v0 = .slice A0 l0.length c0 ∧ Go.Proofs.YtkbpdnhbmceajaaW.PrintWords.Kd.C Go.Proofs.Ytkbpdnhbmceajaa.PQ.k39 W A0 l0.length l0 ∧ l0.length ≤ c0 ∧ (l0.length ≤ maxLen ∧ ∀ x ∈ l0, ((Lit.int .i64 x.f0).wf = true ∧ (Lit.int .i64 x.f1).wf = true ∧ (Lit.int .u64 x.f2).wf = true ∧ (x.f3.length = 32 ∧ ∀ x_ ∈ x.f3, (Lit.int .u8 x_).wf = true) ∧ (Lit.int .i64 x.f4).wf = true)) := by
    obtain ⟨a_, len_, cap_, rfl⟩ := okWide_slice Try.underlying25 (hval 0 25 v0 rfl rfl)
    obtain ⟨fuel, hf⟩ := h0
    obtain ⟨A, c, xs, he, hr, hl, hw⟩ := Opn.open_row (wf := fun x : Go.Proofs.Ytkbpdnhbmceajaa.PQ.S39 => ((Lit.int .i64 x.f0).wf = true ∧ (Lit.int .i64 x.f1).wf = true ∧ (Lit.int .u64 x.f2).wf = true ∧ (x.f3.length = 32 ∧ ∀ x_ ∈ x.f3, (Lit.int .u8 x_).wf = true) ∧ (Lit.int .i64 x.f4).wf = true)) Try.underlying25 (by kernel_rfl) opens_S39 hf
    exact ⟨A, c, xs, by simpa [Value.cells] using he, hr, hl, hw⟩
  subst e0
  obtain ⟨a1, len1, cap1, rfl⟩ := okWide_slice Try.underlying22 (hval 1 22 v1 rfl rfl)
  have k1 := h1
  have lt1 : ∀ x ∈ p1, x.block < W.heap.size := by obtain ⟨m, hm⟩ := k1; exact DataW.trod_lt m _ _ _ hm
  obtain ⟨z1, w1⟩ : ∃ zs, IsRow .u8 W a1 len1 cap1 zs := by
    obtain ⟨fuel, hf⟩ := h1
    rcases open_ints Try.underlying22 Try.underlying5 (by kernel_rfl) hf with ⟨hcs, _⟩ | ⟨x, l, c, zs, hcs, _, hl, hm, hz, _, hcell, hwz⟩
    · simp [Value.cells] at hcs
      obtain ⟨rfl, rfl, rfl⟩ := hcs
      exact ⟨[], .inl ⟨rfl, rfl, rfl, rfl⟩⟩
    · simp [Value.cells] at hcs
      obtain ⟨rfl, rfl, rfl⟩ := hcs
      exact ⟨zs, .inr ⟨_, rfl, hl, hm, by simpa using hz, hcell, hwz⟩⟩
  have y1 : len1 * 1 ≤ 140737488351232 := Go.Proofs.YtkbpdnhbmceajaaW.PrintWords.sized_ints hsz (j := 1) (t := 22) rfl rfl Try.underlying22 Try.underlying5 (by kernel_rfl) (by kernel_rfl) h1
  clear hA0 hval0 hsz0 hsz
  refine (PQ.drawlotlaw24_OpBack.walk Pure.OpBack A0 c0 l0 a1 len1 cap1 z1 W w0 w1 y1).mono fun e W' ⟨he, bel⟩ => ?_
  subst he
  exact ⟨_, rfl, _, _, _, [], _, [], hW', trodAll_mk1 (shut_bool Try.underlying4 _), (trodAll_cons_mk (Below.trod laidOut (by kernel_rfl) (of_decide_eq_true (by kernel_rfl)) kk0 bel lt0) (trodAll_cons_mk (Below.trod laidOut (by kernel_rfl) (of_decide_eq_true (by kernel_rfl)) k1 bel lt1) trodAll_mk0)), rfl, bel.frame _, fun h => by cases h⟩
theorem over : Rows.opBackRow.holds Try.pinned (OpenSpec.ofChange Rows.opBackSpec) :=
  OpenClaim.holds_of_wide 5 Try.f5 rfl rfl rfl rfl rfl rfl rfl ⟨rfl, rfl, rfl, rfl, rfl⟩ rfl rfl rfl rfl rfl (by kernel_rfl) Try.func5 (by kernel_rfl)
    (of_decide_eq_true (by kernel_rfl)) (by unfold Func.isWrapper; first | (rw [if_pos (by decide +kernel)]; kernel_rfl) | (rw [if_neg (by decide +kernel)]; exact ⟨rfl, rfl⟩))
    (fun os started H enc _ => lifted os started H enc)
theorem proved : Rows.OpBackSaid := over
#print axioms proved
end Go.Proofs.Ytkbpdnhbmceajaa.opBack
namespace Go.Proofs.Ytkbpdnhbmceajaa
/-- The row, under a short name, for the claim. -/
theorem opBack_holds : Rows.OpBackSaid := opBack.proved
end Go.Proofs.Ytkbpdnhbmceajaa
