/-
  No cell of these rows narrows 'for every input' (looked for: loops, veiled, ifaces, maps, wideKeys, modest, calm, conditions, laid).
  DERIVED. THE GIVEN ROWS OF THIS SEAT. 14 by the template 'for every input the law returns true; each argument reads behind the call as it read before'; 0 by the template 'total and deterministic' (their statements: YtpkdpdbcgbeakaaTotals.lean).
  GIVEN WITH THE SEED: the statements are not yours to turn. If you find one false, say at which input.
  Laid BY PROGRAM, IN A SANDBOX (cutbox-rows.mjs): the forced cells as the released guide's own fill.sh prints them over the translation 718e8b739ea28bcc… (all of the seat's roots in one cut). By AI agents, Wed Nov 11 2026. No macro, syntax, notation, axiom, sorry.
-/
import Derived.Test.YtpkdpdbcgbeakaaChecked
import GoSem.Claim
import GoSem.ClaimJoined
import GoSem.ClaimMapViews
import Derived.JoinedTies
import Derived.KernelRfl
namespace Go.Proofs.Ytpkdpdbcgbeakaa
/- THE CELL 'sum', in the pinned program and in every row, IS THE sha256 OF THE DUMP (.gsa) THAT YtpkdpdbcgbeakaaProg.lean LOADS. Nothing in Lean hashes anything: it is a label: what it is worth is what the hold of that sum in a sandbox is worth. -/
noncomputable def Try.pinned : Pinned := { name := "ytpkdpdbcgbeakaa", sum := "718e8b739ea28bccb348045d08bf8108e24308767cef31e1173443c72ab3a1f0", checked := Try.checked }
namespace Rows
def none {H : Type} : Left H := { results := [], args := [] }

/-- 'drawlotlaw01.WordShifts': WHATEVER THE INPUT: true; the input reads as it did. -/
def wordShiftsSpec : ChangeSpec := { name := "wordShifts", fn := fun _ => fun
  | [d1, d2] => { results := [.lit (.bool true)], args := [d1, d2] }
  | _ => none }
def wordShiftsRow : OpenClaim := { program := "ytpkdpdbcgbeakaa", sum := "718e8b739ea28bccb348045d08bf8108e24308767cef31e1173443c72ab3a1f0", func := "drawlot/drawlotlaw01.WordShifts", spec := "wordShifts", apart := false }
def WordShiftsSaid : Prop := wordShiftsRow.holds Try.pinned (OpenSpec.ofChange wordShiftsSpec)

/-- ITS FALSE NEIGHBOUR: 'it returns false'. Refute it at one input. -/
def wordShiftsWrong : ChangeSpec := { name := "wordShifts", fn := fun _ => fun
  | [d1, d2] => { results := [.lit (.bool false)], args := [d1, d2] }
  | _ => none }
def WordShiftsWrongFalsely : Prop := wordShiftsRow.holds Try.pinned (OpenSpec.ofChange wordShiftsWrong)

/-- 'drawlotlaw01.WordBytes': WHATEVER THE INPUT: true; the input reads as it did. -/
def wordBytesSpec : ChangeSpec := { name := "wordBytes", fn := fun _ => fun
  | [d1, d2] => { results := [.lit (.bool true)], args := [d1, d2] }
  | _ => none }
def wordBytesRow : OpenClaim := { program := "ytpkdpdbcgbeakaa", sum := "718e8b739ea28bccb348045d08bf8108e24308767cef31e1173443c72ab3a1f0", func := "drawlot/drawlotlaw01.WordBytes", spec := "wordBytes", apart := false }
def WordBytesSaid : Prop := wordBytesRow.holds Try.pinned (OpenSpec.ofChange wordBytesSpec)

/-- ITS FALSE NEIGHBOUR: 'it returns false'. Refute it at one input. -/
def wordBytesWrong : ChangeSpec := { name := "wordBytes", fn := fun _ => fun
  | [d1, d2] => { results := [.lit (.bool false)], args := [d1, d2] }
  | _ => none }
def WordBytesWrongFalsely : Prop := wordBytesRow.holds Try.pinned (OpenSpec.ofChange wordBytesWrong)

/-- 'drawlotlaw01.WordBack': WHATEVER THE INPUT: true; the input reads as it did. -/
def wordBackSpec : ChangeSpec := { name := "wordBack", fn := fun _ => fun
  | [d1, d2, d3] => { results := [.lit (.bool true)], args := [d1, d2, d3] }
  | _ => none }
def wordBackRow : OpenClaim := { program := "ytpkdpdbcgbeakaa", sum := "718e8b739ea28bccb348045d08bf8108e24308767cef31e1173443c72ab3a1f0", func := "drawlot/drawlotlaw01.WordBack", spec := "wordBack", apart := false }
def WordBackSaid : Prop := wordBackRow.holds Try.pinned (OpenSpec.ofChange wordBackSpec)

/-- ITS FALSE NEIGHBOUR: 'it returns false'. Refute it at one input. -/
def wordBackWrong : ChangeSpec := { name := "wordBack", fn := fun _ => fun
  | [d1, d2, d3] => { results := [.lit (.bool false)], args := [d1, d2, d3] }
  | _ => none }
def WordBackWrongFalsely : Prop := wordBackRow.holds Try.pinned (OpenSpec.ofChange wordBackWrong)

/-- 'drawlotlaw01.WordTurns': WHATEVER THE INPUT: true; the input reads as it did. -/
def wordTurnsSpec : ChangeSpec := { name := "wordTurns", fn := fun _ => fun
  | [d1, d2] => { results := [.lit (.bool true)], args := [d1, d2] }
  | _ => none }
def wordTurnsRow : OpenClaim := { program := "ytpkdpdbcgbeakaa", sum := "718e8b739ea28bccb348045d08bf8108e24308767cef31e1173443c72ab3a1f0", func := "drawlot/drawlotlaw01.WordTurns", spec := "wordTurns", apart := false }
def WordTurnsSaid : Prop := wordTurnsRow.holds Try.pinned (OpenSpec.ofChange wordTurnsSpec)

/-- ITS FALSE NEIGHBOUR: 'it returns false'. Refute it at one input. -/
def wordTurnsWrong : ChangeSpec := { name := "wordTurns", fn := fun _ => fun
  | [d1, d2] => { results := [.lit (.bool false)], args := [d1, d2] }
  | _ => none }
def WordTurnsWrongFalsely : Prop := wordTurnsRow.holds Try.pinned (OpenSpec.ofChange wordTurnsWrong)

/-- 'drawlotlaw03.PlanMixes': WHATEVER THE INPUT: true; the input reads as it did. -/
def planMixesSpec : ChangeSpec := { name := "planMixes", fn := fun _ => fun
  | [d] => { results := [.lit (.bool true)], args := [d] }
  | _ => none }
def planMixesRow : OpenClaim := { program := "ytpkdpdbcgbeakaa", sum := "718e8b739ea28bccb348045d08bf8108e24308767cef31e1173443c72ab3a1f0", func := "drawlot/drawlotlaw03.PlanMixes", spec := "planMixes", apart := false }
def PlanMixesSaid : Prop := planMixesRow.holds Try.pinned (OpenSpec.ofChange planMixesSpec)

/-- ITS FALSE NEIGHBOUR: 'it returns false'. Refute it at one input. -/
def planMixesWrong : ChangeSpec := { name := "planMixes", fn := fun _ => fun
  | [d] => { results := [.lit (.bool false)], args := [d] }
  | _ => none }
def PlanMixesWrongFalsely : Prop := planMixesRow.holds Try.pinned (OpenSpec.ofChange planMixesWrong)

/-- 'drawlotlaw03.PlanBack': WHATEVER THE INPUT: true; the input reads as it did. -/
def planBackSpec : ChangeSpec := { name := "planBack", fn := fun _ => fun
  | [d1, d2] => { results := [.lit (.bool true)], args := [d1, d2] }
  | _ => none }
def planBackRow : OpenClaim := { program := "ytpkdpdbcgbeakaa", sum := "718e8b739ea28bccb348045d08bf8108e24308767cef31e1173443c72ab3a1f0", func := "drawlot/drawlotlaw03.PlanBack", spec := "planBack", apart := false }
def PlanBackSaid : Prop := planBackRow.holds Try.pinned (OpenSpec.ofChange planBackSpec)

/-- ITS FALSE NEIGHBOUR: 'it returns false'. Refute it at one input. -/
def planBackWrong : ChangeSpec := { name := "planBack", fn := fun _ => fun
  | [d1, d2] => { results := [.lit (.bool false)], args := [d1, d2] }
  | _ => none }
def PlanBackWrongFalsely : Prop := planBackRow.holds Try.pinned (OpenSpec.ofChange planBackWrong)

/-- 'drawlotlaw03.PlanAny': WHATEVER THE INPUT: true; the input reads as it did. -/
def planAnySpec : ChangeSpec := { name := "planAny", fn := fun _ => fun
  | [d1, d2] => { results := [.lit (.bool true)], args := [d1, d2] }
  | _ => none }
def planAnyRow : OpenClaim := { program := "ytpkdpdbcgbeakaa", sum := "718e8b739ea28bccb348045d08bf8108e24308767cef31e1173443c72ab3a1f0", func := "drawlot/drawlotlaw03.PlanAny", spec := "planAny", apart := false }
def PlanAnySaid : Prop := planAnyRow.holds Try.pinned (OpenSpec.ofChange planAnySpec)

/-- ITS FALSE NEIGHBOUR: 'it returns false'. Refute it at one input. -/
def planAnyWrong : ChangeSpec := { name := "planAny", fn := fun _ => fun
  | [d1, d2] => { results := [.lit (.bool false)], args := [d1, d2] }
  | _ => none }
def PlanAnyWrongFalsely : Prop := planAnyRow.holds Try.pinned (OpenSpec.ofChange planAnyWrong)

/-- 'drawlotlaw02.PadTails': WHATEVER THE INPUT: true; the input reads as it did. -/
def padTailsSpec : ChangeSpec := { name := "padTails", fn := fun _ => fun
  | [d1, d2] => { results := [.lit (.bool true)], args := [d1, d2] }
  | _ => none }
def padTailsRow : OpenClaim := { program := "ytpkdpdbcgbeakaa", sum := "718e8b739ea28bccb348045d08bf8108e24308767cef31e1173443c72ab3a1f0", func := "drawlot/drawlotlaw02.PadTails", spec := "padTails", apart := false }
def PadTailsSaid : Prop := padTailsRow.holds Try.pinned (OpenSpec.ofChange padTailsSpec)

/-- ITS FALSE NEIGHBOUR: 'it returns false'. Refute it at one input. -/
def padTailsWrong : ChangeSpec := { name := "padTails", fn := fun _ => fun
  | [d1, d2] => { results := [.lit (.bool false)], args := [d1, d2] }
  | _ => none }
def PadTailsWrongFalsely : Prop := padTailsRow.holds Try.pinned (OpenSpec.ofChange padTailsWrong)

/-- 'drawlotlaw02.PadMessages': WHATEVER THE INPUT: true; the input reads as it did. -/
def padMessagesSpec : ChangeSpec := { name := "padMessages", fn := fun _ => fun
  | [d] => { results := [.lit (.bool true)], args := [d] }
  | _ => none }
def padMessagesRow : OpenClaim := { program := "ytpkdpdbcgbeakaa", sum := "718e8b739ea28bccb348045d08bf8108e24308767cef31e1173443c72ab3a1f0", func := "drawlot/drawlotlaw02.PadMessages", spec := "padMessages", apart := false }
def PadMessagesSaid : Prop := padMessagesRow.holds Try.pinned (OpenSpec.ofChange padMessagesSpec)

/-- ITS FALSE NEIGHBOUR: 'it returns false'. Refute it at one input. -/
def padMessagesWrong : ChangeSpec := { name := "padMessages", fn := fun _ => fun
  | [d] => { results := [.lit (.bool false)], args := [d] }
  | _ => none }
def PadMessagesWrongFalsely : Prop := padMessagesRow.holds Try.pinned (OpenSpec.ofChange padMessagesWrong)

/-- 'drawlotlaw02.PadWhole': WHATEVER THE INPUT: true; the input reads as it did. -/
def padWholeSpec : ChangeSpec := { name := "padWhole", fn := fun _ => fun
  | [d1, d2] => { results := [.lit (.bool true)], args := [d1, d2] }
  | _ => none }
def padWholeRow : OpenClaim := { program := "ytpkdpdbcgbeakaa", sum := "718e8b739ea28bccb348045d08bf8108e24308767cef31e1173443c72ab3a1f0", func := "drawlot/drawlotlaw02.PadWhole", spec := "padWhole", apart := false }
def PadWholeSaid : Prop := padWholeRow.holds Try.pinned (OpenSpec.ofChange padWholeSpec)

/-- ITS FALSE NEIGHBOUR: 'it returns false'. Refute it at one input. -/
def padWholeWrong : ChangeSpec := { name := "padWhole", fn := fun _ => fun
  | [d1, d2] => { results := [.lit (.bool false)], args := [d1, d2] }
  | _ => none }
def PadWholeWrongFalsely : Prop := padWholeRow.holds Try.pinned (OpenSpec.ofChange padWholeWrong)

/-- 'drawlotlaw02.PadSplits': WHATEVER THE INPUT: true; the input reads as it did. -/
def padSplitsSpec : ChangeSpec := { name := "padSplits", fn := fun _ => fun
  | [d] => { results := [.lit (.bool true)], args := [d] }
  | _ => none }
def padSplitsRow : OpenClaim := { program := "ytpkdpdbcgbeakaa", sum := "718e8b739ea28bccb348045d08bf8108e24308767cef31e1173443c72ab3a1f0", func := "drawlot/drawlotlaw02.PadSplits", spec := "padSplits", apart := false }
def PadSplitsSaid : Prop := padSplitsRow.holds Try.pinned (OpenSpec.ofChange padSplitsSpec)

/-- ITS FALSE NEIGHBOUR: 'it returns false'. Refute it at one input. -/
def padSplitsWrong : ChangeSpec := { name := "padSplits", fn := fun _ => fun
  | [d] => { results := [.lit (.bool false)], args := [d] }
  | _ => none }
def PadSplitsWrongFalsely : Prop := padSplitsRow.holds Try.pinned (OpenSpec.ofChange padSplitsWrong)

/-- 'drawlotlaw04.CompTakes': WHATEVER THE INPUT: true; the input reads as it did. -/
def compTakesSpec : ChangeSpec := { name := "compTakes", fn := fun _ => fun
  | [d1, d2, d3] => { results := [.lit (.bool true)], args := [d1, d2, d3] }
  | _ => none }
def compTakesRow : OpenClaim := { program := "ytpkdpdbcgbeakaa", sum := "718e8b739ea28bccb348045d08bf8108e24308767cef31e1173443c72ab3a1f0", func := "drawlot/drawlotlaw04.CompTakes", spec := "compTakes", apart := false }
def CompTakesSaid : Prop := compTakesRow.holds Try.pinned (OpenSpec.ofChange compTakesSpec)

/-- ITS FALSE NEIGHBOUR: 'it returns false'. Refute it at one input. -/
def compTakesWrong : ChangeSpec := { name := "compTakes", fn := fun _ => fun
  | [d1, d2, d3] => { results := [.lit (.bool false)], args := [d1, d2, d3] }
  | _ => none }
def CompTakesWrongFalsely : Prop := compTakesRow.holds Try.pinned (OpenSpec.ofChange compTakesWrong)

/-- 'drawlotlaw04.CompBack': WHATEVER THE INPUT: true; the input reads as it did. -/
def compBackSpec : ChangeSpec := { name := "compBack", fn := fun _ => fun
  | [d1, d2, d3] => { results := [.lit (.bool true)], args := [d1, d2, d3] }
  | _ => none }
def compBackRow : OpenClaim := { program := "ytpkdpdbcgbeakaa", sum := "718e8b739ea28bccb348045d08bf8108e24308767cef31e1173443c72ab3a1f0", func := "drawlot/drawlotlaw04.CompBack", spec := "compBack", apart := false }
def CompBackSaid : Prop := compBackRow.holds Try.pinned (OpenSpec.ofChange compBackSpec)

/-- ITS FALSE NEIGHBOUR: 'it returns false'. Refute it at one input. -/
def compBackWrong : ChangeSpec := { name := "compBack", fn := fun _ => fun
  | [d1, d2, d3] => { results := [.lit (.bool false)], args := [d1, d2, d3] }
  | _ => none }
def CompBackWrongFalsely : Prop := compBackRow.holds Try.pinned (OpenSpec.ofChange compBackWrong)

/-- 'drawlotlaw04.CompRoots': WHATEVER THE INPUT: true; the input reads as it did. -/
def compRootsSpec : ChangeSpec := { name := "compRoots", fn := fun _ => fun
  | [d] => { results := [.lit (.bool true)], args := [d] }
  | _ => none }
def compRootsRow : OpenClaim := { program := "ytpkdpdbcgbeakaa", sum := "718e8b739ea28bccb348045d08bf8108e24308767cef31e1173443c72ab3a1f0", func := "drawlot/drawlotlaw04.CompRoots", spec := "compRoots", apart := false }
def CompRootsSaid : Prop := compRootsRow.holds Try.pinned (OpenSpec.ofChange compRootsSpec)

/-- ITS FALSE NEIGHBOUR: 'it returns false'. Refute it at one input. -/
def compRootsWrong : ChangeSpec := { name := "compRoots", fn := fun _ => fun
  | [d] => { results := [.lit (.bool false)], args := [d] }
  | _ => none }
def CompRootsWrongFalsely : Prop := compRootsRow.holds Try.pinned (OpenSpec.ofChange compRootsWrong)

/- THE SECOND FORM. 'bulk': how many values and letters a reading holds, each counted each time it is reached (what is shared counts as often as it is met; a slice's spare places count too). A statement '..UptoSaid' is the law's where the arguments, and the package variables that the reading takes, are together of bulk at most 1048576: NARROWER than '..Said'. Prove '..Said' where nothing that the law and all that it calls make is longer than what came in: it says more and counts as full. Else prove '..UptoSaid'. A law counts once. -/
mutual
def uptoBulk {H : Type} : DataW H → Nat
  | .lit (.string bytes) => bytes.length + 1
  | .lit _ => 1
  | .nil => 1
  | .ptr d => uptoBulk d + 1
  | .slice elems spare => uptoBulkAll elems + uptoBulkAll spare + 1
  | .agg parts => uptoBulkAll parts + 1
  | .iface _ d => uptoBulk d + 1
  | .map entries => uptoBulkEntries entries + 1
  | .held _ => 1
def uptoBulkAll {H : Type} : List (DataW H) → Nat
  | [] => 0
  | d :: r => uptoBulk d + uptoBulkAll r
def uptoBulkEntries {H : Type} : List (Lit × DataW H) → Nat
  | [] => 0
  | x :: r => uptoBulkEntry x + uptoBulkEntries r
def uptoBulkEntry {H : Type} : Lit × DataW H → Nat
  | (.string bytes, d) => bytes.length + uptoBulk d + 1
  | (_, d) => uptoBulk d + 1
 end
def uptoSmall : (H : Type) → List (DataW H) → Bool := fun _ ds => decide (uptoBulkAll ds ≤ 1048576)
def OpenSpec.upto (s : _root_.Go.ChangeSpec) : _root_.Go.OpenSpec := { _root_.Go.OpenSpec.ofChange s with cond := some uptoSmall }

/-- 'drawlotlaw01.WordShifts', WHERE WHAT IT READS IS OF BULK AT MOST 1048576: true; the input reads as it did. -/
def wordShiftsUptoRow : OpenClaim := { program := "ytpkdpdbcgbeakaa", sum := "718e8b739ea28bccb348045d08bf8108e24308767cef31e1173443c72ab3a1f0", func := "drawlot/drawlotlaw01.WordShifts", spec := "wordShifts", apart := false, narrowed := true }
def WordShiftsUptoSaid : Prop := wordShiftsUptoRow.holds Try.pinned (OpenSpec.upto wordShiftsSpec)

/-- 'drawlotlaw01.WordBytes', WHERE WHAT IT READS IS OF BULK AT MOST 1048576: true; the input reads as it did. -/
def wordBytesUptoRow : OpenClaim := { program := "ytpkdpdbcgbeakaa", sum := "718e8b739ea28bccb348045d08bf8108e24308767cef31e1173443c72ab3a1f0", func := "drawlot/drawlotlaw01.WordBytes", spec := "wordBytes", apart := false, narrowed := true }
def WordBytesUptoSaid : Prop := wordBytesUptoRow.holds Try.pinned (OpenSpec.upto wordBytesSpec)

/-- 'drawlotlaw01.WordBack', WHERE WHAT IT READS IS OF BULK AT MOST 1048576: true; the input reads as it did. -/
def wordBackUptoRow : OpenClaim := { program := "ytpkdpdbcgbeakaa", sum := "718e8b739ea28bccb348045d08bf8108e24308767cef31e1173443c72ab3a1f0", func := "drawlot/drawlotlaw01.WordBack", spec := "wordBack", apart := false, narrowed := true }
def WordBackUptoSaid : Prop := wordBackUptoRow.holds Try.pinned (OpenSpec.upto wordBackSpec)

/-- 'drawlotlaw01.WordTurns', WHERE WHAT IT READS IS OF BULK AT MOST 1048576: true; the input reads as it did. -/
def wordTurnsUptoRow : OpenClaim := { program := "ytpkdpdbcgbeakaa", sum := "718e8b739ea28bccb348045d08bf8108e24308767cef31e1173443c72ab3a1f0", func := "drawlot/drawlotlaw01.WordTurns", spec := "wordTurns", apart := false, narrowed := true }
def WordTurnsUptoSaid : Prop := wordTurnsUptoRow.holds Try.pinned (OpenSpec.upto wordTurnsSpec)

/-- 'drawlotlaw03.PlanMixes', WHERE WHAT IT READS IS OF BULK AT MOST 1048576: true; the input reads as it did. -/
def planMixesUptoRow : OpenClaim := { program := "ytpkdpdbcgbeakaa", sum := "718e8b739ea28bccb348045d08bf8108e24308767cef31e1173443c72ab3a1f0", func := "drawlot/drawlotlaw03.PlanMixes", spec := "planMixes", apart := false, narrowed := true }
def PlanMixesUptoSaid : Prop := planMixesUptoRow.holds Try.pinned (OpenSpec.upto planMixesSpec)

/-- 'drawlotlaw03.PlanBack', WHERE WHAT IT READS IS OF BULK AT MOST 1048576: true; the input reads as it did. -/
def planBackUptoRow : OpenClaim := { program := "ytpkdpdbcgbeakaa", sum := "718e8b739ea28bccb348045d08bf8108e24308767cef31e1173443c72ab3a1f0", func := "drawlot/drawlotlaw03.PlanBack", spec := "planBack", apart := false, narrowed := true }
def PlanBackUptoSaid : Prop := planBackUptoRow.holds Try.pinned (OpenSpec.upto planBackSpec)

/-- 'drawlotlaw03.PlanAny', WHERE WHAT IT READS IS OF BULK AT MOST 1048576: true; the input reads as it did. -/
def planAnyUptoRow : OpenClaim := { program := "ytpkdpdbcgbeakaa", sum := "718e8b739ea28bccb348045d08bf8108e24308767cef31e1173443c72ab3a1f0", func := "drawlot/drawlotlaw03.PlanAny", spec := "planAny", apart := false, narrowed := true }
def PlanAnyUptoSaid : Prop := planAnyUptoRow.holds Try.pinned (OpenSpec.upto planAnySpec)

/-- 'drawlotlaw02.PadTails', WHERE WHAT IT READS IS OF BULK AT MOST 1048576: true; the input reads as it did. -/
def padTailsUptoRow : OpenClaim := { program := "ytpkdpdbcgbeakaa", sum := "718e8b739ea28bccb348045d08bf8108e24308767cef31e1173443c72ab3a1f0", func := "drawlot/drawlotlaw02.PadTails", spec := "padTails", apart := false, narrowed := true }
def PadTailsUptoSaid : Prop := padTailsUptoRow.holds Try.pinned (OpenSpec.upto padTailsSpec)

/-- 'drawlotlaw02.PadMessages', WHERE WHAT IT READS IS OF BULK AT MOST 1048576: true; the input reads as it did. -/
def padMessagesUptoRow : OpenClaim := { program := "ytpkdpdbcgbeakaa", sum := "718e8b739ea28bccb348045d08bf8108e24308767cef31e1173443c72ab3a1f0", func := "drawlot/drawlotlaw02.PadMessages", spec := "padMessages", apart := false, narrowed := true }
def PadMessagesUptoSaid : Prop := padMessagesUptoRow.holds Try.pinned (OpenSpec.upto padMessagesSpec)

/-- 'drawlotlaw02.PadWhole', WHERE WHAT IT READS IS OF BULK AT MOST 1048576: true; the input reads as it did. -/
def padWholeUptoRow : OpenClaim := { program := "ytpkdpdbcgbeakaa", sum := "718e8b739ea28bccb348045d08bf8108e24308767cef31e1173443c72ab3a1f0", func := "drawlot/drawlotlaw02.PadWhole", spec := "padWhole", apart := false, narrowed := true }
def PadWholeUptoSaid : Prop := padWholeUptoRow.holds Try.pinned (OpenSpec.upto padWholeSpec)

/-- 'drawlotlaw02.PadSplits', WHERE WHAT IT READS IS OF BULK AT MOST 1048576: true; the input reads as it did. -/
def padSplitsUptoRow : OpenClaim := { program := "ytpkdpdbcgbeakaa", sum := "718e8b739ea28bccb348045d08bf8108e24308767cef31e1173443c72ab3a1f0", func := "drawlot/drawlotlaw02.PadSplits", spec := "padSplits", apart := false, narrowed := true }
def PadSplitsUptoSaid : Prop := padSplitsUptoRow.holds Try.pinned (OpenSpec.upto padSplitsSpec)

/-- 'drawlotlaw04.CompTakes', WHERE WHAT IT READS IS OF BULK AT MOST 1048576: true; the input reads as it did. -/
def compTakesUptoRow : OpenClaim := { program := "ytpkdpdbcgbeakaa", sum := "718e8b739ea28bccb348045d08bf8108e24308767cef31e1173443c72ab3a1f0", func := "drawlot/drawlotlaw04.CompTakes", spec := "compTakes", apart := false, narrowed := true }
def CompTakesUptoSaid : Prop := compTakesUptoRow.holds Try.pinned (OpenSpec.upto compTakesSpec)

/-- 'drawlotlaw04.CompBack', WHERE WHAT IT READS IS OF BULK AT MOST 1048576: true; the input reads as it did. -/
def compBackUptoRow : OpenClaim := { program := "ytpkdpdbcgbeakaa", sum := "718e8b739ea28bccb348045d08bf8108e24308767cef31e1173443c72ab3a1f0", func := "drawlot/drawlotlaw04.CompBack", spec := "compBack", apart := false, narrowed := true }
def CompBackUptoSaid : Prop := compBackUptoRow.holds Try.pinned (OpenSpec.upto compBackSpec)

/-- 'drawlotlaw04.CompRoots', WHERE WHAT IT READS IS OF BULK AT MOST 1048576: true; the input reads as it did. -/
def compRootsUptoRow : OpenClaim := { program := "ytpkdpdbcgbeakaa", sum := "718e8b739ea28bccb348045d08bf8108e24308767cef31e1173443c72ab3a1f0", func := "drawlot/drawlotlaw04.CompRoots", spec := "compRoots", apart := false, narrowed := true }
def CompRootsUptoSaid : Prop := compRootsUptoRow.holds Try.pinned (OpenSpec.upto compRootsSpec)

end Rows
end Go.Proofs.Ytpkdpdbcgbeakaa
