/-
  No cell of these rows narrows 'for every input' (looked for: loops, veiled, ifaces, maps, wideKeys, modest, calm, conditions, laid).
  DERIVED. THE GIVEN ROWS OF THIS SEAT. 4 by the template 'for every input the law returns true; each argument reads behind the call as it read before'; 0 by the template 'total and deterministic' (their statements: YtafodmgkieggaaaTotals.lean).
  GIVEN WITH THE SEED: the statements are not yours to turn. If you find one false, say at which input.
  Laid BY PROGRAM, IN A SANDBOX (cutbox-rows.mjs): the forced cells as the released guide's own fill.sh prints them over the translation 09f0fff37fb3d15a… (all of the seat's roots in one cut). By AI agents, Wed Nov 11 2026. No macro, syntax, notation, axiom, sorry.
-/
import Derived.Test.YtafodmgkieggaaaChecked
import GoSem.Claim
import GoSem.ClaimJoined
import GoSem.ClaimMapViews
import Derived.JoinedTies
import Derived.KernelRfl
namespace Go.Proofs.Ytafodmgkieggaaa
/- THE CELL 'sum', in the pinned program and in every row, IS THE sha256 OF THE DUMP (.gsa) THAT YtafodmgkieggaaaProg.lean LOADS. Nothing in Lean hashes anything: it is a label: what it is worth is what the hold of that sum in a sandbox is worth. -/
noncomputable def Try.pinned : Pinned := { name := "ytafodmgkieggaaa", sum := "09f0fff37fb3d15a8502f6d452c679ddcc7427dadc43b6066d42c55623cbe070", checked := Try.checked }
namespace Rows
def none {H : Type} : Left H := { results := [], args := [] }

/-- 'drawlotlaw02.PadTails': WHATEVER THE INPUT: true; the input reads as it did. -/
def padTailsSpec : ChangeSpec := { name := "padTails", fn := fun _ => fun
  | [d1, d2] => { results := [.lit (.bool true)], args := [d1, d2] }
  | _ => none }
def padTailsRow : OpenClaim := { program := "ytafodmgkieggaaa", sum := "09f0fff37fb3d15a8502f6d452c679ddcc7427dadc43b6066d42c55623cbe070", func := "drawlot/drawlotlaw02.PadTails", spec := "padTails", apart := false }
def PadTailsSaid : Prop := padTailsRow.holds Try.pinned (OpenSpec.ofChange padTailsSpec)

/-- ITS FALSE NEIGHBOUR: 'it returns false'. Refute it at one input. -/
def padTailsWrong : ChangeSpec := { name := "padTails", fn := fun _ => fun
  | [d1, d2] => { results := [.lit (.bool false)], args := [d1, d2] }
  | _ => none }
def PadTailsWrongFalsely : Prop := padTailsRow.holds Try.pinned (OpenSpec.ofChange padTailsWrong)

/-- 'drawlotlaw02.PadMessages': WHATEVER THE INPUT: true; the input reads as it did. -/
def padMessagesSpec : ChangeSpec := { name := "padMessages", fn := fun _ => fun
  | [d] => { results := [.lit (.bool true)], args := [d] }
  | _ => none }
def padMessagesRow : OpenClaim := { program := "ytafodmgkieggaaa", sum := "09f0fff37fb3d15a8502f6d452c679ddcc7427dadc43b6066d42c55623cbe070", func := "drawlot/drawlotlaw02.PadMessages", spec := "padMessages", apart := false }
def PadMessagesSaid : Prop := padMessagesRow.holds Try.pinned (OpenSpec.ofChange padMessagesSpec)

/-- ITS FALSE NEIGHBOUR: 'it returns false'. Refute it at one input. -/
def padMessagesWrong : ChangeSpec := { name := "padMessages", fn := fun _ => fun
  | [d] => { results := [.lit (.bool false)], args := [d] }
  | _ => none }
def PadMessagesWrongFalsely : Prop := padMessagesRow.holds Try.pinned (OpenSpec.ofChange padMessagesWrong)

/-- 'drawlotlaw02.PadWhole': WHATEVER THE INPUT: true; the input reads as it did. -/
def padWholeSpec : ChangeSpec := { name := "padWhole", fn := fun _ => fun
  | [d1, d2] => { results := [.lit (.bool true)], args := [d1, d2] }
  | _ => none }
def padWholeRow : OpenClaim := { program := "ytafodmgkieggaaa", sum := "09f0fff37fb3d15a8502f6d452c679ddcc7427dadc43b6066d42c55623cbe070", func := "drawlot/drawlotlaw02.PadWhole", spec := "padWhole", apart := false }
def PadWholeSaid : Prop := padWholeRow.holds Try.pinned (OpenSpec.ofChange padWholeSpec)

/-- ITS FALSE NEIGHBOUR: 'it returns false'. Refute it at one input. -/
def padWholeWrong : ChangeSpec := { name := "padWhole", fn := fun _ => fun
  | [d1, d2] => { results := [.lit (.bool false)], args := [d1, d2] }
  | _ => none }
def PadWholeWrongFalsely : Prop := padWholeRow.holds Try.pinned (OpenSpec.ofChange padWholeWrong)

/-- 'drawlotlaw02.PadSplits': WHATEVER THE INPUT: true; the input reads as it did. -/
def padSplitsSpec : ChangeSpec := { name := "padSplits", fn := fun _ => fun
  | [d] => { results := [.lit (.bool true)], args := [d] }
  | _ => none }
def padSplitsRow : OpenClaim := { program := "ytafodmgkieggaaa", sum := "09f0fff37fb3d15a8502f6d452c679ddcc7427dadc43b6066d42c55623cbe070", func := "drawlot/drawlotlaw02.PadSplits", spec := "padSplits", apart := false }
def PadSplitsSaid : Prop := padSplitsRow.holds Try.pinned (OpenSpec.ofChange padSplitsSpec)

/-- ITS FALSE NEIGHBOUR: 'it returns false'. Refute it at one input. -/
def padSplitsWrong : ChangeSpec := { name := "padSplits", fn := fun _ => fun
  | [d] => { results := [.lit (.bool false)], args := [d] }
  | _ => none }
def PadSplitsWrongFalsely : Prop := padSplitsRow.holds Try.pinned (OpenSpec.ofChange padSplitsWrong)

/- THE SECOND FORM. 'bulk': how many values and letters a reading holds, each counted each time it is reached (what is shared counts as often as it is met; a slice's spare places count too). A statement '..UptoSaid' is the law's where the arguments, and the package variables that the reading takes, are together of bulk at most 1048576: NARROWER than '..Said'. Prove '..Said' where nothing that the law and all that it calls make is longer than what came in: it says more and counts as full. Else prove '..UptoSaid'. A law counts once. -/
mutual
def uptoBulk {H : Type} : DataW H → Nat
  | .lit (.string bytes) => bytes.length + 1
  | .lit _ => 1
  | .nil => 1
  | .ptr d => uptoBulk d + 1
  | .slice elems spare => uptoBulkAll elems + uptoBulkAll spare + 1
  | .agg parts => uptoBulkAll parts + 1
  | .iface _ d => uptoBulk d + 1
  | .map entries => uptoBulkEntries entries + 1
  | .held _ => 1
def uptoBulkAll {H : Type} : List (DataW H) → Nat
  | [] => 0
  | d :: r => uptoBulk d + uptoBulkAll r
def uptoBulkEntries {H : Type} : List (Lit × DataW H) → Nat
  | [] => 0
  | x :: r => uptoBulkEntry x + uptoBulkEntries r
def uptoBulkEntry {H : Type} : Lit × DataW H → Nat
  | (.string bytes, d) => bytes.length + uptoBulk d + 1
  | (_, d) => uptoBulk d + 1
 end
def uptoSmall : (H : Type) → List (DataW H) → Bool := fun _ ds => decide (uptoBulkAll ds ≤ 1048576)
def OpenSpec.upto (s : _root_.Go.ChangeSpec) : _root_.Go.OpenSpec := { _root_.Go.OpenSpec.ofChange s with cond := some uptoSmall }

/-- 'drawlotlaw02.PadTails', WHERE WHAT IT READS IS OF BULK AT MOST 1048576: true; the input reads as it did. -/
def padTailsUptoRow : OpenClaim := { program := "ytafodmgkieggaaa", sum := "09f0fff37fb3d15a8502f6d452c679ddcc7427dadc43b6066d42c55623cbe070", func := "drawlot/drawlotlaw02.PadTails", spec := "padTails", apart := false, narrowed := true }
def PadTailsUptoSaid : Prop := padTailsUptoRow.holds Try.pinned (OpenSpec.upto padTailsSpec)

/-- 'drawlotlaw02.PadMessages', WHERE WHAT IT READS IS OF BULK AT MOST 1048576: true; the input reads as it did. -/
def padMessagesUptoRow : OpenClaim := { program := "ytafodmgkieggaaa", sum := "09f0fff37fb3d15a8502f6d452c679ddcc7427dadc43b6066d42c55623cbe070", func := "drawlot/drawlotlaw02.PadMessages", spec := "padMessages", apart := false, narrowed := true }
def PadMessagesUptoSaid : Prop := padMessagesUptoRow.holds Try.pinned (OpenSpec.upto padMessagesSpec)

/-- 'drawlotlaw02.PadWhole', WHERE WHAT IT READS IS OF BULK AT MOST 1048576: true; the input reads as it did. -/
def padWholeUptoRow : OpenClaim := { program := "ytafodmgkieggaaa", sum := "09f0fff37fb3d15a8502f6d452c679ddcc7427dadc43b6066d42c55623cbe070", func := "drawlot/drawlotlaw02.PadWhole", spec := "padWhole", apart := false, narrowed := true }
def PadWholeUptoSaid : Prop := padWholeUptoRow.holds Try.pinned (OpenSpec.upto padWholeSpec)

/-- 'drawlotlaw02.PadSplits', WHERE WHAT IT READS IS OF BULK AT MOST 1048576: true; the input reads as it did. -/
def padSplitsUptoRow : OpenClaim := { program := "ytafodmgkieggaaa", sum := "09f0fff37fb3d15a8502f6d452c679ddcc7427dadc43b6066d42c55623cbe070", func := "drawlot/drawlotlaw02.PadSplits", spec := "padSplits", apart := false, narrowed := true }
def PadSplitsUptoSaid : Prop := padSplitsUptoRow.holds Try.pinned (OpenSpec.upto padSplitsSpec)

end Rows
end Go.Proofs.Ytafodmgkieggaaa
