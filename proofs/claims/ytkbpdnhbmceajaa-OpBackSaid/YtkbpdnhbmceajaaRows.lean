/-
  No cell of these rows narrows 'for every input' (looked for: loops, veiled, ifaces, maps, wideKeys, modest, calm, conditions, laid).
  DERIVED. THE GIVEN ROWS OF THIS SEAT. 5 by the template 'for every input the law returns true; each argument reads behind the call as it read before'; 0 by the template 'total and deterministic' (their statements: YtkbpdnhbmceajaaTotals.lean).
  GIVEN WITH THE SEED: the statements are not yours to turn. If you find one false, say at which input.
  Laid BY PROGRAM, IN A SANDBOX (cutbox-rows.mjs): the forced cells as the released guide's own fill.sh prints them over the translation da97386da1773089… (all of the seat's roots in one cut). By AI agents, Wed Nov 11 2026. No macro, syntax, notation, axiom, sorry.
-/
import Derived.Test.YtkbpdnhbmceajaaChecked
import GoSem.Claim
import GoSem.ClaimJoined
import GoSem.ClaimMapViews
import Derived.JoinedTies
import Derived.KernelRfl
namespace Go.Proofs.Ytkbpdnhbmceajaa
/- THE CELL 'sum', in the pinned program and in every row, IS THE sha256 OF THE DUMP (.gsa) THAT YtkbpdnhbmceajaaProg.lean LOADS. Nothing in Lean hashes anything: it is a label: what it is worth is what the hold of that sum in a sandbox is worth. -/
noncomputable def Try.pinned : Pinned := { name := "ytkbpdnhbmceajaa", sum := "da97386da17730892a975393059dbf16a2e4ea00bf7adfc89fa66f9227497387", checked := Try.checked }
namespace Rows
def none {H : Type} : Left H := { results := [], args := [] }

/-- 'drawlotlaw24.OpDecodes': WHATEVER THE INPUT: true; the input reads as it did. -/
def opDecodesSpec : ChangeSpec := { name := "opDecodes", fn := fun _ => fun
  | [d] => { results := [.lit (.bool true)], args := [d] }
  | _ => none }
def opDecodesRow : OpenClaim := { program := "ytkbpdnhbmceajaa", sum := "da97386da17730892a975393059dbf16a2e4ea00bf7adfc89fa66f9227497387", func := "drawlot/drawlotlaw24.OpDecodes", spec := "opDecodes", unfollowed := true, recurses := true, apart := false }
def OpDecodesSaid : Prop := opDecodesRow.holds Try.pinned (OpenSpec.ofChange opDecodesSpec)

/-- ITS FALSE NEIGHBOUR: 'it returns false'. Refute it at one input. -/
def opDecodesWrong : ChangeSpec := { name := "opDecodes", fn := fun _ => fun
  | [d] => { results := [.lit (.bool false)], args := [d] }
  | _ => none }
def OpDecodesWrongFalsely : Prop := opDecodesRow.holds Try.pinned (OpenSpec.ofChange opDecodesWrong)

/-- 'drawlotlaw24.OpEncodes': WHATEVER THE INPUT: true; the input reads as it did. -/
def opEncodesSpec : ChangeSpec := { name := "opEncodes", fn := fun _ => fun
  | [d1, d2, d3] => { results := [.lit (.bool true)], args := [d1, d2, d3] }
  | _ => none }
def opEncodesRow : OpenClaim := { program := "ytkbpdnhbmceajaa", sum := "da97386da17730892a975393059dbf16a2e4ea00bf7adfc89fa66f9227497387", func := "drawlot/drawlotlaw24.OpEncodes", spec := "opEncodes", unfollowed := true, recurses := true, apart := false }
def OpEncodesSaid : Prop := opEncodesRow.holds Try.pinned (OpenSpec.ofChange opEncodesSpec)

/-- ITS FALSE NEIGHBOUR: 'it returns false'. Refute it at one input. -/
def opEncodesWrong : ChangeSpec := { name := "opEncodes", fn := fun _ => fun
  | [d1, d2, d3] => { results := [.lit (.bool false)], args := [d1, d2, d3] }
  | _ => none }
def OpEncodesWrongFalsely : Prop := opEncodesRow.holds Try.pinned (OpenSpec.ofChange opEncodesWrong)

/-- 'drawlotlaw24.OpBack': WHATEVER THE INPUT: true; the input reads as it did. -/
def opBackSpec : ChangeSpec := { name := "opBack", fn := fun _ => fun
  | [d1, d2] => { results := [.lit (.bool true)], args := [d1, d2] }
  | _ => none }
def opBackRow : OpenClaim := { program := "ytkbpdnhbmceajaa", sum := "da97386da17730892a975393059dbf16a2e4ea00bf7adfc89fa66f9227497387", func := "drawlot/drawlotlaw24.OpBack", spec := "opBack", unfollowed := true, recurses := true, apart := false }
def OpBackSaid : Prop := opBackRow.holds Try.pinned (OpenSpec.ofChange opBackSpec)

/-- ITS FALSE NEIGHBOUR: 'it returns false'. Refute it at one input. -/
def opBackWrong : ChangeSpec := { name := "opBack", fn := fun _ => fun
  | [d1, d2] => { results := [.lit (.bool false)], args := [d1, d2] }
  | _ => none }
def OpBackWrongFalsely : Prop := opBackRow.holds Try.pinned (OpenSpec.ofChange opBackWrong)

/-- 'drawlotlaw24.OpJoins': WHATEVER THE INPUT: true; the input reads as it did. -/
def opJoinsSpec : ChangeSpec := { name := "opJoins", fn := fun _ => fun
  | [d1, d2] => { results := [.lit (.bool true)], args := [d1, d2] }
  | _ => none }
def opJoinsRow : OpenClaim := { program := "ytkbpdnhbmceajaa", sum := "da97386da17730892a975393059dbf16a2e4ea00bf7adfc89fa66f9227497387", func := "drawlot/drawlotlaw24.OpJoins", spec := "opJoins", unfollowed := true, recurses := true, apart := false }
def OpJoinsSaid : Prop := opJoinsRow.holds Try.pinned (OpenSpec.ofChange opJoinsSpec)

/-- ITS FALSE NEIGHBOUR: 'it returns false'. Refute it at one input. -/
def opJoinsWrong : ChangeSpec := { name := "opJoins", fn := fun _ => fun
  | [d1, d2] => { results := [.lit (.bool false)], args := [d1, d2] }
  | _ => none }
def OpJoinsWrongFalsely : Prop := opJoinsRow.holds Try.pinned (OpenSpec.ofChange opJoinsWrong)

/-- 'drawlotlaw24.OpSizes': WHATEVER THE INPUT: true; the input reads as it did. -/
def opSizesSpec : ChangeSpec := { name := "opSizes", fn := fun _ => fun
  | [d] => { results := [.lit (.bool true)], args := [d] }
  | _ => none }
def opSizesRow : OpenClaim := { program := "ytkbpdnhbmceajaa", sum := "da97386da17730892a975393059dbf16a2e4ea00bf7adfc89fa66f9227497387", func := "drawlot/drawlotlaw24.OpSizes", spec := "opSizes", unfollowed := true, recurses := true, apart := false }
def OpSizesSaid : Prop := opSizesRow.holds Try.pinned (OpenSpec.ofChange opSizesSpec)

/-- ITS FALSE NEIGHBOUR: 'it returns false'. Refute it at one input. -/
def opSizesWrong : ChangeSpec := { name := "opSizes", fn := fun _ => fun
  | [d] => { results := [.lit (.bool false)], args := [d] }
  | _ => none }
def OpSizesWrongFalsely : Prop := opSizesRow.holds Try.pinned (OpenSpec.ofChange opSizesWrong)

/- THE SECOND FORM. 'bulk': how many values and letters a reading holds, each counted each time it is reached (what is shared counts as often as it is met; a slice's spare places count too). A statement '..UptoSaid' is the law's where the arguments, and the package variables that the reading takes, are together of bulk at most 1048576: NARROWER than '..Said'. Prove '..Said' where nothing that the law and all that it calls make is longer than what came in: it says more and counts as full. Else prove '..UptoSaid'. A law counts once. -/
mutual
def uptoBulk {H : Type} : DataW H → Nat
  | .lit (.string bytes) => bytes.length + 1
  | .lit _ => 1
  | .nil => 1
  | .ptr d => uptoBulk d + 1
  | .slice elems spare => uptoBulkAll elems + uptoBulkAll spare + 1
  | .agg parts => uptoBulkAll parts + 1
  | .iface _ d => uptoBulk d + 1
  | .map entries => uptoBulkEntries entries + 1
  | .held _ => 1
def uptoBulkAll {H : Type} : List (DataW H) → Nat
  | [] => 0
  | d :: r => uptoBulk d + uptoBulkAll r
def uptoBulkEntries {H : Type} : List (Lit × DataW H) → Nat
  | [] => 0
  | x :: r => uptoBulkEntry x + uptoBulkEntries r
def uptoBulkEntry {H : Type} : Lit × DataW H → Nat
  | (.string bytes, d) => bytes.length + uptoBulk d + 1
  | (_, d) => uptoBulk d + 1
 end
def uptoSmall : (H : Type) → List (DataW H) → Bool := fun _ ds => decide (uptoBulkAll ds ≤ 1048576)
def OpenSpec.upto (s : _root_.Go.ChangeSpec) : _root_.Go.OpenSpec := { _root_.Go.OpenSpec.ofChange s with cond := some uptoSmall }

/-- 'drawlotlaw24.OpDecodes', WHERE WHAT IT READS IS OF BULK AT MOST 1048576: true; the input reads as it did. -/
def opDecodesUptoRow : OpenClaim := { program := "ytkbpdnhbmceajaa", sum := "da97386da17730892a975393059dbf16a2e4ea00bf7adfc89fa66f9227497387", func := "drawlot/drawlotlaw24.OpDecodes", spec := "opDecodes", unfollowed := true, recurses := true, apart := false, narrowed := true }
def OpDecodesUptoSaid : Prop := opDecodesUptoRow.holds Try.pinned (OpenSpec.upto opDecodesSpec)

/-- 'drawlotlaw24.OpEncodes', WHERE WHAT IT READS IS OF BULK AT MOST 1048576: true; the input reads as it did. -/
def opEncodesUptoRow : OpenClaim := { program := "ytkbpdnhbmceajaa", sum := "da97386da17730892a975393059dbf16a2e4ea00bf7adfc89fa66f9227497387", func := "drawlot/drawlotlaw24.OpEncodes", spec := "opEncodes", unfollowed := true, recurses := true, apart := false, narrowed := true }
def OpEncodesUptoSaid : Prop := opEncodesUptoRow.holds Try.pinned (OpenSpec.upto opEncodesSpec)

/-- 'drawlotlaw24.OpBack', WHERE WHAT IT READS IS OF BULK AT MOST 1048576: true; the input reads as it did. -/
def opBackUptoRow : OpenClaim := { program := "ytkbpdnhbmceajaa", sum := "da97386da17730892a975393059dbf16a2e4ea00bf7adfc89fa66f9227497387", func := "drawlot/drawlotlaw24.OpBack", spec := "opBack", unfollowed := true, recurses := true, apart := false, narrowed := true }
def OpBackUptoSaid : Prop := opBackUptoRow.holds Try.pinned (OpenSpec.upto opBackSpec)

/-- 'drawlotlaw24.OpJoins', WHERE WHAT IT READS IS OF BULK AT MOST 1048576: true; the input reads as it did. -/
def opJoinsUptoRow : OpenClaim := { program := "ytkbpdnhbmceajaa", sum := "da97386da17730892a975393059dbf16a2e4ea00bf7adfc89fa66f9227497387", func := "drawlot/drawlotlaw24.OpJoins", spec := "opJoins", unfollowed := true, recurses := true, apart := false, narrowed := true }
def OpJoinsUptoSaid : Prop := opJoinsUptoRow.holds Try.pinned (OpenSpec.upto opJoinsSpec)

/-- 'drawlotlaw24.OpSizes', WHERE WHAT IT READS IS OF BULK AT MOST 1048576: true; the input reads as it did. -/
def opSizesUptoRow : OpenClaim := { program := "ytkbpdnhbmceajaa", sum := "da97386da17730892a975393059dbf16a2e4ea00bf7adfc89fa66f9227497387", func := "drawlot/drawlotlaw24.OpSizes", spec := "opSizes", unfollowed := true, recurses := true, apart := false, narrowed := true }
def OpSizesUptoSaid : Prop := opSizesUptoRow.holds Try.pinned (OpenSpec.upto opSizesSpec)

end Rows
end Go.Proofs.Ytkbpdnhbmceajaa
