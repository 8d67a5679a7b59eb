/-
  No cell of these rows narrows 'for every input' (looked for: loops, veiled, ifaces, maps, wideKeys, modest, calm, conditions, laid).
  DERIVED. THE GIVEN ROWS OF THIS SEAT. 12 by the template 'for every input the law returns true; each argument reads behind the call as it read before'; 0 by the template 'total and deterministic' (their statements: YtngacagfmpndmaaTotals.lean).
  GIVEN WITH THE SEED: the statements are not yours to turn. If you find one false, say at which input.
  Laid BY PROGRAM, IN A SANDBOX (cutbox-rows.mjs): the forced cells as the released guide's own fill.sh prints them over the translation f2b6619b567f4447… (all of the seat's roots in one cut). By AI agents, Wed Nov 11 2026. No macro, syntax, notation, axiom, sorry.
-/
import Derived.Test.YtngacagfmpndmaaChecked
import GoSem.Claim
import GoSem.ClaimJoined
import GoSem.ClaimMapViews
import Derived.JoinedTies
import Derived.KernelRfl
namespace Go.Proofs.Ytngacagfmpndmaa
/- THE CELL 'sum', in the pinned program and in every row, IS THE sha256 OF THE DUMP (.gsa) THAT YtngacagfmpndmaaProg.lean LOADS. Nothing in Lean hashes anything: it is a label: what it is worth is what the hold of that sum in a sandbox is worth. -/
noncomputable def Try.pinned : Pinned := { name := "ytngacagfmpndmaa", sum := "f2b6619b567f44473c1305b14b911d4d328baf614f3f765f112c19e90c5704c8", checked := Try.checked }
namespace Rows
def none {H : Type} : Left H := { results := [], args := [] }

/-- 'drawlotlaw09.SafeTwo': WHATEVER THE INPUT: true; the input reads as it did. -/
def safeTwoSpec : ChangeSpec := { name := "safeTwo", fn := fun _ => fun
  | [d1, d2] => { results := [.lit (.bool true)], args := [d1, d2] }
  | _ => none }
def safeTwoRow : OpenClaim := { program := "ytngacagfmpndmaa", sum := "f2b6619b567f44473c1305b14b911d4d328baf614f3f765f112c19e90c5704c8", func := "drawlot/drawlotlaw09.SafeTwo", spec := "safeTwo", inPlace := ["math/bits.Add64", "math/bits.Sub64"], apart := false }
def SafeTwoSaid : Prop := safeTwoRow.holds Try.pinned (OpenSpec.ofChange safeTwoSpec)

/-- ITS FALSE NEIGHBOUR: 'it returns false'. Refute it at one input. -/
def safeTwoWrong : ChangeSpec := { name := "safeTwo", fn := fun _ => fun
  | [d1, d2] => { results := [.lit (.bool false)], args := [d1, d2] }
  | _ => none }
def SafeTwoWrongFalsely : Prop := safeTwoRow.holds Try.pinned (OpenSpec.ofChange safeTwoWrong)

/-- 'drawlotlaw09.SafeTotals': WHATEVER THE INPUT: true; the input reads as it did. -/
def safeTotalsSpec : ChangeSpec := { name := "safeTotals", fn := fun _ => fun
  | [d] => { results := [.lit (.bool true)], args := [d] }
  | _ => none }
def safeTotalsRow : OpenClaim := { program := "ytngacagfmpndmaa", sum := "f2b6619b567f44473c1305b14b911d4d328baf614f3f765f112c19e90c5704c8", func := "drawlot/drawlotlaw09.SafeTotals", spec := "safeTotals", inPlace := ["math/bits.Add64", "math/bits.Sub64"], apart := false }
def SafeTotalsSaid : Prop := safeTotalsRow.holds Try.pinned (OpenSpec.ofChange safeTotalsSpec)

/-- ITS FALSE NEIGHBOUR: 'it returns false'. Refute it at one input. -/
def safeTotalsWrong : ChangeSpec := { name := "safeTotals", fn := fun _ => fun
  | [d] => { results := [.lit (.bool false)], args := [d] }
  | _ => none }
def SafeTotalsWrongFalsely : Prop := safeTotalsRow.holds Try.pinned (OpenSpec.ofChange safeTotalsWrong)

/-- 'drawlotlaw09.SafeBack': WHATEVER THE INPUT: true; the input reads as it did. -/
def safeBackSpec : ChangeSpec := { name := "safeBack", fn := fun _ => fun
  | [d1, d2] => { results := [.lit (.bool true)], args := [d1, d2] }
  | _ => none }
def safeBackRow : OpenClaim := { program := "ytngacagfmpndmaa", sum := "f2b6619b567f44473c1305b14b911d4d328baf614f3f765f112c19e90c5704c8", func := "drawlot/drawlotlaw09.SafeBack", spec := "safeBack", inPlace := ["math/bits.Add64", "math/bits.Sub64"], apart := false }
def SafeBackSaid : Prop := safeBackRow.holds Try.pinned (OpenSpec.ofChange safeBackSpec)

/-- ITS FALSE NEIGHBOUR: 'it returns false'. Refute it at one input. -/
def safeBackWrong : ChangeSpec := { name := "safeBack", fn := fun _ => fun
  | [d1, d2] => { results := [.lit (.bool false)], args := [d1, d2] }
  | _ => none }
def SafeBackWrongFalsely : Prop := safeBackRow.holds Try.pinned (OpenSpec.ofChange safeBackWrong)

/-- 'drawlotlaw09.SafeSums': WHATEVER THE INPUT: true; the input reads as it did. -/
def safeSumsSpec : ChangeSpec := { name := "safeSums", fn := fun _ => fun
  | [d1, d2] => { results := [.lit (.bool true)], args := [d1, d2] }
  | _ => none }
def safeSumsRow : OpenClaim := { program := "ytngacagfmpndmaa", sum := "f2b6619b567f44473c1305b14b911d4d328baf614f3f765f112c19e90c5704c8", func := "drawlot/drawlotlaw09.SafeSums", spec := "safeSums", inPlace := ["math/bits.Add64", "math/bits.Sub64"], apart := false }
def SafeSumsSaid : Prop := safeSumsRow.holds Try.pinned (OpenSpec.ofChange safeSumsSpec)

/-- ITS FALSE NEIGHBOUR: 'it returns false'. Refute it at one input. -/
def safeSumsWrong : ChangeSpec := { name := "safeSums", fn := fun _ => fun
  | [d1, d2] => { results := [.lit (.bool false)], args := [d1, d2] }
  | _ => none }
def SafeSumsWrongFalsely : Prop := safeSumsRow.holds Try.pinned (OpenSpec.ofChange safeSumsWrong)

/-- 'drawlotlaw12.ScanTells': WHATEVER THE INPUT: true; the input reads as it did. -/
def scanTellsSpec : ChangeSpec := { name := "scanTells", fn := fun _ => fun
  | [d1, d2, d3] => { results := [.lit (.bool true)], args := [d1, d2, d3] }
  | _ => none }
def scanTellsRow : OpenClaim := { program := "ytngacagfmpndmaa", sum := "f2b6619b567f44473c1305b14b911d4d328baf614f3f765f112c19e90c5704c8", func := "drawlot/drawlotlaw12.ScanTells", spec := "scanTells", inPlace := ["math/bits.Add64"], apart := false }
def ScanTellsSaid : Prop := scanTellsRow.holds Try.pinned (OpenSpec.ofChange scanTellsSpec)

/-- ITS FALSE NEIGHBOUR: 'it returns false'. Refute it at one input. -/
def scanTellsWrong : ChangeSpec := { name := "scanTells", fn := fun _ => fun
  | [d1, d2, d3] => { results := [.lit (.bool false)], args := [d1, d2, d3] }
  | _ => none }
def ScanTellsWrongFalsely : Prop := scanTellsRow.holds Try.pinned (OpenSpec.ofChange scanTellsWrong)

/-- 'drawlotlaw12.ScanStands': WHATEVER THE INPUT: true; the input reads as it did. -/
def scanStandsSpec : ChangeSpec := { name := "scanStands", fn := fun _ => fun
  | [d1, d2] => { results := [.lit (.bool true)], args := [d1, d2] }
  | _ => none }
def scanStandsRow : OpenClaim := { program := "ytngacagfmpndmaa", sum := "f2b6619b567f44473c1305b14b911d4d328baf614f3f765f112c19e90c5704c8", func := "drawlot/drawlotlaw12.ScanStands", spec := "scanStands", inPlace := ["math/bits.Add64"], apart := false }
def ScanStandsSaid : Prop := scanStandsRow.holds Try.pinned (OpenSpec.ofChange scanStandsSpec)

/-- ITS FALSE NEIGHBOUR: 'it returns false'. Refute it at one input. -/
def scanStandsWrong : ChangeSpec := { name := "scanStands", fn := fun _ => fun
  | [d1, d2] => { results := [.lit (.bool false)], args := [d1, d2] }
  | _ => none }
def ScanStandsWrongFalsely : Prop := scanStandsRow.holds Try.pinned (OpenSpec.ofChange scanStandsWrong)

/-- 'drawlotlaw12.ScanTrees': WHATEVER THE INPUT: true; the input reads as it did. -/
def scanTreesSpec : ChangeSpec := { name := "scanTrees", fn := fun _ => fun
  | [d1, d2] => { results := [.lit (.bool true)], args := [d1, d2] }
  | _ => none }
def scanTreesRow : OpenClaim := { program := "ytngacagfmpndmaa", sum := "f2b6619b567f44473c1305b14b911d4d328baf614f3f765f112c19e90c5704c8", func := "drawlot/drawlotlaw12.ScanTrees", spec := "scanTrees", inPlace := ["math/bits.Add64"], apart := false }
def ScanTreesSaid : Prop := scanTreesRow.holds Try.pinned (OpenSpec.ofChange scanTreesSpec)

/-- ITS FALSE NEIGHBOUR: 'it returns false'. Refute it at one input. -/
def scanTreesWrong : ChangeSpec := { name := "scanTrees", fn := fun _ => fun
  | [d1, d2] => { results := [.lit (.bool false)], args := [d1, d2] }
  | _ => none }
def ScanTreesWrongFalsely : Prop := scanTreesRow.holds Try.pinned (OpenSpec.ofChange scanTreesWrong)

/-- 'drawlotlaw11.FenBuilds': WHATEVER THE INPUT: true; the input reads as it did. -/
def fenBuildsSpec : ChangeSpec := { name := "fenBuilds", fn := fun _ => fun
  | [d] => { results := [.lit (.bool true)], args := [d] }
  | _ => none }
def fenBuildsRow : OpenClaim := { program := "ytngacagfmpndmaa", sum := "f2b6619b567f44473c1305b14b911d4d328baf614f3f765f112c19e90c5704c8", func := "drawlot/drawlotlaw11.FenBuilds", spec := "fenBuilds", inPlace := ["math/bits.Add64"], apart := false }
def FenBuildsSaid : Prop := fenBuildsRow.holds Try.pinned (OpenSpec.ofChange fenBuildsSpec)

/-- ITS FALSE NEIGHBOUR: 'it returns false'. Refute it at one input. -/
def fenBuildsWrong : ChangeSpec := { name := "fenBuilds", fn := fun _ => fun
  | [d] => { results := [.lit (.bool false)], args := [d] }
  | _ => none }
def FenBuildsWrongFalsely : Prop := fenBuildsRow.holds Try.pinned (OpenSpec.ofChange fenBuildsWrong)

/-- 'drawlotlaw11.FenAsks': WHATEVER THE INPUT: true; the input reads as it did. -/
def fenAsksSpec : ChangeSpec := { name := "fenAsks", fn := fun _ => fun
  | [d1, d2, d3] => { results := [.lit (.bool true)], args := [d1, d2, d3] }
  | _ => none }
def fenAsksRow : OpenClaim := { program := "ytngacagfmpndmaa", sum := "f2b6619b567f44473c1305b14b911d4d328baf614f3f765f112c19e90c5704c8", func := "drawlot/drawlotlaw11.FenAsks", spec := "fenAsks", inPlace := ["math/bits.Add64"], apart := false }
def FenAsksSaid : Prop := fenAsksRow.holds Try.pinned (OpenSpec.ofChange fenAsksSpec)

/-- ITS FALSE NEIGHBOUR: 'it returns false'. Refute it at one input. -/
def fenAsksWrong : ChangeSpec := { name := "fenAsks", fn := fun _ => fun
  | [d1, d2, d3] => { results := [.lit (.bool false)], args := [d1, d2, d3] }
  | _ => none }
def FenAsksWrongFalsely : Prop := fenAsksRow.holds Try.pinned (OpenSpec.ofChange fenAsksWrong)

/-- 'drawlotlaw11.FenTurns': WHATEVER THE INPUT: true; the input reads as it did. -/
def fenTurnsSpec : ChangeSpec := { name := "fenTurns", fn := fun _ => fun
  | [d1, d2] => { results := [.lit (.bool true)], args := [d1, d2] }
  | _ => none }
def fenTurnsRow : OpenClaim := { program := "ytngacagfmpndmaa", sum := "f2b6619b567f44473c1305b14b911d4d328baf614f3f765f112c19e90c5704c8", func := "drawlot/drawlotlaw11.FenTurns", spec := "fenTurns", inPlace := ["math/bits.Add64"], apart := false }
def FenTurnsSaid : Prop := fenTurnsRow.holds Try.pinned (OpenSpec.ofChange fenTurnsSpec)

/-- ITS FALSE NEIGHBOUR: 'it returns false'. Refute it at one input. -/
def fenTurnsWrong : ChangeSpec := { name := "fenTurns", fn := fun _ => fun
  | [d1, d2] => { results := [.lit (.bool false)], args := [d1, d2] }
  | _ => none }
def FenTurnsWrongFalsely : Prop := fenTurnsRow.holds Try.pinned (OpenSpec.ofChange fenTurnsWrong)

/-- 'drawlotlaw11.FenOwns': WHATEVER THE INPUT: true; the input reads as it did. -/
def fenOwnsSpec : ChangeSpec := { name := "fenOwns", fn := fun _ => fun
  | [d] => { results := [.lit (.bool true)], args := [d] }
  | _ => none }
def fenOwnsRow : OpenClaim := { program := "ytngacagfmpndmaa", sum := "f2b6619b567f44473c1305b14b911d4d328baf614f3f765f112c19e90c5704c8", func := "drawlot/drawlotlaw11.FenOwns", spec := "fenOwns", inPlace := ["math/bits.Add64"], apart := false }
def FenOwnsSaid : Prop := fenOwnsRow.holds Try.pinned (OpenSpec.ofChange fenOwnsSpec)

/-- ITS FALSE NEIGHBOUR: 'it returns false'. Refute it at one input. -/
def fenOwnsWrong : ChangeSpec := { name := "fenOwns", fn := fun _ => fun
  | [d] => { results := [.lit (.bool false)], args := [d] }
  | _ => none }
def FenOwnsWrongFalsely : Prop := fenOwnsRow.holds Try.pinned (OpenSpec.ofChange fenOwnsWrong)

/-- 'drawlotlaw11.FenTotals': WHATEVER THE INPUT: true; the input reads as it did. -/
def fenTotalsSpec : ChangeSpec := { name := "fenTotals", fn := fun _ => fun
  | [d1, d2, d3] => { results := [.lit (.bool true)], args := [d1, d2, d3] }
  | _ => none }
def fenTotalsRow : OpenClaim := { program := "ytngacagfmpndmaa", sum := "f2b6619b567f44473c1305b14b911d4d328baf614f3f765f112c19e90c5704c8", func := "drawlot/drawlotlaw11.FenTotals", spec := "fenTotals", inPlace := ["math/bits.Add64"], apart := false }
def FenTotalsSaid : Prop := fenTotalsRow.holds Try.pinned (OpenSpec.ofChange fenTotalsSpec)

/-- ITS FALSE NEIGHBOUR: 'it returns false'. Refute it at one input. -/
def fenTotalsWrong : ChangeSpec := { name := "fenTotals", fn := fun _ => fun
  | [d1, d2, d3] => { results := [.lit (.bool false)], args := [d1, d2, d3] }
  | _ => none }
def FenTotalsWrongFalsely : Prop := fenTotalsRow.holds Try.pinned (OpenSpec.ofChange fenTotalsWrong)

/- THE SECOND FORM. 'bulk': how many values and letters a reading holds, each counted each time it is reached (what is shared counts as often as it is met; a slice's spare places count too). A statement '..UptoSaid' is the law's where the arguments, and the package variables that the reading takes, are together of bulk at most 1048576: NARROWER than '..Said'. Prove '..Said' where nothing that the law and all that it calls make is longer than what came in: it says more and counts as full. Else prove '..UptoSaid'. A law counts once. -/
mutual
def uptoBulk {H : Type} : DataW H → Nat
  | .lit (.string bytes) => bytes.length + 1
  | .lit _ => 1
  | .nil => 1
  | .ptr d => uptoBulk d + 1
  | .slice elems spare => uptoBulkAll elems + uptoBulkAll spare + 1
  | .agg parts => uptoBulkAll parts + 1
  | .iface _ d => uptoBulk d + 1
  | .map entries => uptoBulkEntries entries + 1
  | .held _ => 1
def uptoBulkAll {H : Type} : List (DataW H) → Nat
  | [] => 0
  | d :: r => uptoBulk d + uptoBulkAll r
def uptoBulkEntries {H : Type} : List (Lit × DataW H) → Nat
  | [] => 0
  | x :: r => uptoBulkEntry x + uptoBulkEntries r
def uptoBulkEntry {H : Type} : Lit × DataW H → Nat
  | (.string bytes, d) => bytes.length + uptoBulk d + 1
  | (_, d) => uptoBulk d + 1
 end
def uptoSmall : (H : Type) → List (DataW H) → Bool := fun _ ds => decide (uptoBulkAll ds ≤ 1048576)
def OpenSpec.upto (s : _root_.Go.ChangeSpec) : _root_.Go.OpenSpec := { _root_.Go.OpenSpec.ofChange s with cond := some uptoSmall }

/-- 'drawlotlaw09.SafeTwo', WHERE WHAT IT READS IS OF BULK AT MOST 1048576: true; the input reads as it did. -/
def safeTwoUptoRow : OpenClaim := { program := "ytngacagfmpndmaa", sum := "f2b6619b567f44473c1305b14b911d4d328baf614f3f765f112c19e90c5704c8", func := "drawlot/drawlotlaw09.SafeTwo", spec := "safeTwo", inPlace := ["math/bits.Add64", "math/bits.Sub64"], apart := false, narrowed := true }
def SafeTwoUptoSaid : Prop := safeTwoUptoRow.holds Try.pinned (OpenSpec.upto safeTwoSpec)

/-- 'drawlotlaw09.SafeTotals', WHERE WHAT IT READS IS OF BULK AT MOST 1048576: true; the input reads as it did. -/
def safeTotalsUptoRow : OpenClaim := { program := "ytngacagfmpndmaa", sum := "f2b6619b567f44473c1305b14b911d4d328baf614f3f765f112c19e90c5704c8", func := "drawlot/drawlotlaw09.SafeTotals", spec := "safeTotals", inPlace := ["math/bits.Add64", "math/bits.Sub64"], apart := false, narrowed := true }
def SafeTotalsUptoSaid : Prop := safeTotalsUptoRow.holds Try.pinned (OpenSpec.upto safeTotalsSpec)

/-- 'drawlotlaw09.SafeBack', WHERE WHAT IT READS IS OF BULK AT MOST 1048576: true; the input reads as it did. -/
def safeBackUptoRow : OpenClaim := { program := "ytngacagfmpndmaa", sum := "f2b6619b567f44473c1305b14b911d4d328baf614f3f765f112c19e90c5704c8", func := "drawlot/drawlotlaw09.SafeBack", spec := "safeBack", inPlace := ["math/bits.Add64", "math/bits.Sub64"], apart := false, narrowed := true }
def SafeBackUptoSaid : Prop := safeBackUptoRow.holds Try.pinned (OpenSpec.upto safeBackSpec)

/-- 'drawlotlaw09.SafeSums', WHERE WHAT IT READS IS OF BULK AT MOST 1048576: true; the input reads as it did. -/
def safeSumsUptoRow : OpenClaim := { program := "ytngacagfmpndmaa", sum := "f2b6619b567f44473c1305b14b911d4d328baf614f3f765f112c19e90c5704c8", func := "drawlot/drawlotlaw09.SafeSums", spec := "safeSums", inPlace := ["math/bits.Add64", "math/bits.Sub64"], apart := false, narrowed := true }
def SafeSumsUptoSaid : Prop := safeSumsUptoRow.holds Try.pinned (OpenSpec.upto safeSumsSpec)

/-- 'drawlotlaw12.ScanTells', WHERE WHAT IT READS IS OF BULK AT MOST 1048576: true; the input reads as it did. -/
def scanTellsUptoRow : OpenClaim := { program := "ytngacagfmpndmaa", sum := "f2b6619b567f44473c1305b14b911d4d328baf614f3f765f112c19e90c5704c8", func := "drawlot/drawlotlaw12.ScanTells", spec := "scanTells", inPlace := ["math/bits.Add64"], apart := false, narrowed := true }
def ScanTellsUptoSaid : Prop := scanTellsUptoRow.holds Try.pinned (OpenSpec.upto scanTellsSpec)

/-- 'drawlotlaw12.ScanStands', WHERE WHAT IT READS IS OF BULK AT MOST 1048576: true; the input reads as it did. -/
def scanStandsUptoRow : OpenClaim := { program := "ytngacagfmpndmaa", sum := "f2b6619b567f44473c1305b14b911d4d328baf614f3f765f112c19e90c5704c8", func := "drawlot/drawlotlaw12.ScanStands", spec := "scanStands", inPlace := ["math/bits.Add64"], apart := false, narrowed := true }
def ScanStandsUptoSaid : Prop := scanStandsUptoRow.holds Try.pinned (OpenSpec.upto scanStandsSpec)

/-- 'drawlotlaw12.ScanTrees', WHERE WHAT IT READS IS OF BULK AT MOST 1048576: true; the input reads as it did. -/
def scanTreesUptoRow : OpenClaim := { program := "ytngacagfmpndmaa", sum := "f2b6619b567f44473c1305b14b911d4d328baf614f3f765f112c19e90c5704c8", func := "drawlot/drawlotlaw12.ScanTrees", spec := "scanTrees", inPlace := ["math/bits.Add64"], apart := false, narrowed := true }
def ScanTreesUptoSaid : Prop := scanTreesUptoRow.holds Try.pinned (OpenSpec.upto scanTreesSpec)

/-- 'drawlotlaw11.FenBuilds', WHERE WHAT IT READS IS OF BULK AT MOST 1048576: true; the input reads as it did. -/
def fenBuildsUptoRow : OpenClaim := { program := "ytngacagfmpndmaa", sum := "f2b6619b567f44473c1305b14b911d4d328baf614f3f765f112c19e90c5704c8", func := "drawlot/drawlotlaw11.FenBuilds", spec := "fenBuilds", inPlace := ["math/bits.Add64"], apart := false, narrowed := true }
def FenBuildsUptoSaid : Prop := fenBuildsUptoRow.holds Try.pinned (OpenSpec.upto fenBuildsSpec)

/-- 'drawlotlaw11.FenAsks', WHERE WHAT IT READS IS OF BULK AT MOST 1048576: true; the input reads as it did. -/
def fenAsksUptoRow : OpenClaim := { program := "ytngacagfmpndmaa", sum := "f2b6619b567f44473c1305b14b911d4d328baf614f3f765f112c19e90c5704c8", func := "drawlot/drawlotlaw11.FenAsks", spec := "fenAsks", inPlace := ["math/bits.Add64"], apart := false, narrowed := true }
def FenAsksUptoSaid : Prop := fenAsksUptoRow.holds Try.pinned (OpenSpec.upto fenAsksSpec)

/-- 'drawlotlaw11.FenTurns', WHERE WHAT IT READS IS OF BULK AT MOST 1048576: true; the input reads as it did. -/
def fenTurnsUptoRow : OpenClaim := { program := "ytngacagfmpndmaa", sum := "f2b6619b567f44473c1305b14b911d4d328baf614f3f765f112c19e90c5704c8", func := "drawlot/drawlotlaw11.FenTurns", spec := "fenTurns", inPlace := ["math/bits.Add64"], apart := false, narrowed := true }
def FenTurnsUptoSaid : Prop := fenTurnsUptoRow.holds Try.pinned (OpenSpec.upto fenTurnsSpec)

/-- 'drawlotlaw11.FenOwns', WHERE WHAT IT READS IS OF BULK AT MOST 1048576: true; the input reads as it did. -/
def fenOwnsUptoRow : OpenClaim := { program := "ytngacagfmpndmaa", sum := "f2b6619b567f44473c1305b14b911d4d328baf614f3f765f112c19e90c5704c8", func := "drawlot/drawlotlaw11.FenOwns", spec := "fenOwns", inPlace := ["math/bits.Add64"], apart := false, narrowed := true }
def FenOwnsUptoSaid : Prop := fenOwnsUptoRow.holds Try.pinned (OpenSpec.upto fenOwnsSpec)

/-- 'drawlotlaw11.FenTotals', WHERE WHAT IT READS IS OF BULK AT MOST 1048576: true; the input reads as it did. -/
def fenTotalsUptoRow : OpenClaim := { program := "ytngacagfmpndmaa", sum := "f2b6619b567f44473c1305b14b911d4d328baf614f3f765f112c19e90c5704c8", func := "drawlot/drawlotlaw11.FenTotals", spec := "fenTotals", inPlace := ["math/bits.Add64"], apart := false, narrowed := true }
def FenTotalsUptoSaid : Prop := fenTotalsUptoRow.holds Try.pinned (OpenSpec.upto fenTotalsSpec)

end Rows
end Go.Proofs.Ytngacagfmpndmaa
