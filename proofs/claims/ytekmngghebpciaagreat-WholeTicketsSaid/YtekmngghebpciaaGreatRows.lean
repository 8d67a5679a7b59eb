/-
  No cell of these rows narrows 'for every input' (looked for: loops, veiled, ifaces, maps, wideKeys, modest, calm, conditions, laid).
  DERIVED. THE GIVEN ROWS OF THIS SEAT. 6 by the template 'for every input the law returns true; each argument reads behind the call as it read before'; 0 by the template 'total and deterministic' (their statements: YtekmngghebpciaaGreatTotals.lean).
  GIVEN WITH THE SEED: the statements are not yours to turn. If you find one false, say at which input.
  Laid BY PROGRAM, IN A SANDBOX (cutbox-rows.mjs): the forced cells as the released guide's own fill.sh prints them over the translation 87fdbf094d45f551… (all of the seat's roots in one cut). By AI agents, Wed Nov 11 2026. No macro, syntax, notation, axiom, sorry.
-/
import Derived.Test.YtekmngghebpciaaGreatChecked
import GoSem.Claim
import GoSem.ClaimJoined
import GoSem.ClaimMapViews
import Derived.JoinedTies
import Derived.KernelRfl
namespace Go.Proofs.YtekmngghebpciaaGreat
/- THE CELL 'sum', in the pinned program and in every row, IS THE sha256 OF THE DUMP (.gsa) THAT YtekmngghebpciaaGreatProg.lean LOADS. Nothing in Lean hashes anything: it is a label: what it is worth is what the hold of that sum in a sandbox is worth. -/
noncomputable def Tryz.pinned : Pinned := { name := "ytekmngghebpciaagreat", sum := "87fdbf094d45f551a01baf78a7f2278f5740a2797200a0f65e10a8a9b5119ed3", checked := Tryz.checked }
namespace Rows
def none {H : Type} : Left H := { results := [], args := [] }

/-- 'drawlottop.WholeAlias': WHATEVER THE INPUT: true; the input reads as it did. -/
def wholeAliasSpec : ChangeSpec := { name := "wholeAlias", fn := fun _ => fun
  | [d1, d2] => { results := [.lit (.bool true)], args := [d1, d2] }
  | _ => none }
def wholeAliasRow : OpenClaim := { program := "ytekmngghebpciaagreat", sum := "87fdbf094d45f551a01baf78a7f2278f5740a2797200a0f65e10a8a9b5119ed3", func := "drawlot/drawlottop.WholeAlias", spec := "wholeAlias", inPlace := ["math/bits.Add64"], unfollowed := true, recurses := true, plainKeys := false, apart := false }
def WholeAliasSaid : Prop := wholeAliasRow.holds Tryz.pinned (OpenSpec.ofChange wholeAliasSpec)

/-- ITS FALSE NEIGHBOUR: 'it returns false'. Refute it at one input. -/
def wholeAliasWrong : ChangeSpec := { name := "wholeAlias", fn := fun _ => fun
  | [d1, d2] => { results := [.lit (.bool false)], args := [d1, d2] }
  | _ => none }
def WholeAliasWrongFalsely : Prop := wholeAliasRow.holds Tryz.pinned (OpenSpec.ofChange wholeAliasWrong)

/-- 'drawlottop.WholeTapes': WHATEVER THE INPUT: true; the input reads as it did. -/
def wholeTapesSpec : ChangeSpec := { name := "wholeTapes", fn := fun _ => fun
  | [d1, d2] => { results := [.lit (.bool true)], args := [d1, d2] }
  | _ => none }
def wholeTapesRow : OpenClaim := { program := "ytekmngghebpciaagreat", sum := "87fdbf094d45f551a01baf78a7f2278f5740a2797200a0f65e10a8a9b5119ed3", func := "drawlot/drawlottop.WholeTapes", spec := "wholeTapes", inPlace := ["math/bits.Add64"], unfollowed := true, recurses := true, plainKeys := false, apart := false }
def WholeTapesSaid : Prop := wholeTapesRow.holds Tryz.pinned (OpenSpec.ofChange wholeTapesSpec)

/-- ITS FALSE NEIGHBOUR: 'it returns false'. Refute it at one input. -/
def wholeTapesWrong : ChangeSpec := { name := "wholeTapes", fn := fun _ => fun
  | [d1, d2] => { results := [.lit (.bool false)], args := [d1, d2] }
  | _ => none }
def WholeTapesWrongFalsely : Prop := wholeTapesRow.holds Tryz.pinned (OpenSpec.ofChange wholeTapesWrong)

/-- 'drawlottop.WholeTickets': WHATEVER THE INPUT: true; the input reads as it did. -/
def wholeTicketsSpec : ChangeSpec := { name := "wholeTickets", fn := fun _ => fun
  | [d] => { results := [.lit (.bool true)], args := [d] }
  | _ => none }
def wholeTicketsRow : OpenClaim := { program := "ytekmngghebpciaagreat", sum := "87fdbf094d45f551a01baf78a7f2278f5740a2797200a0f65e10a8a9b5119ed3", func := "drawlot/drawlottop.WholeTickets", spec := "wholeTickets", inPlace := ["math/bits.Add64"], unfollowed := true, recurses := true, plainKeys := false, apart := false }
def WholeTicketsSaid : Prop := wholeTicketsRow.holds Tryz.pinned (OpenSpec.ofChange wholeTicketsSpec)

/-- ITS FALSE NEIGHBOUR: 'it returns false'. Refute it at one input. -/
def wholeTicketsWrong : ChangeSpec := { name := "wholeTickets", fn := fun _ => fun
  | [d] => { results := [.lit (.bool false)], args := [d] }
  | _ => none }
def WholeTicketsWrongFalsely : Prop := wholeTicketsRow.holds Tryz.pinned (OpenSpec.ofChange wholeTicketsWrong)

/-- 'drawlottop.WholeStream': WHATEVER THE INPUT: true; the input reads as it did. -/
def wholeStreamSpec : ChangeSpec := { name := "wholeStream", fn := fun _ => fun
  | [d1, d2, d3] => { results := [.lit (.bool true)], args := [d1, d2, d3] }
  | _ => none }
def wholeStreamRow : OpenClaim := { program := "ytekmngghebpciaagreat", sum := "87fdbf094d45f551a01baf78a7f2278f5740a2797200a0f65e10a8a9b5119ed3", func := "drawlot/drawlottop.WholeStream", spec := "wholeStream", inPlace := ["math/bits.Add64"], unfollowed := true, recurses := true, plainKeys := false, apart := false }
def WholeStreamSaid : Prop := wholeStreamRow.holds Tryz.pinned (OpenSpec.ofChange wholeStreamSpec)

/-- ITS FALSE NEIGHBOUR: 'it returns false'. Refute it at one input. -/
def wholeStreamWrong : ChangeSpec := { name := "wholeStream", fn := fun _ => fun
  | [d1, d2, d3] => { results := [.lit (.bool false)], args := [d1, d2, d3] }
  | _ => none }
def WholeStreamWrongFalsely : Prop := wholeStreamRow.holds Tryz.pinned (OpenSpec.ofChange wholeStreamWrong)

/-- 'drawlottop.WholeCommittee': WHATEVER THE INPUT: true; the input reads as it did. -/
def wholeCommitteeSpec : ChangeSpec := { name := "wholeCommittee", fn := fun _ => fun
  | [d1, d2, d3] => { results := [.lit (.bool true)], args := [d1, d2, d3] }
  | _ => none }
def wholeCommitteeRow : OpenClaim := { program := "ytekmngghebpciaagreat", sum := "87fdbf094d45f551a01baf78a7f2278f5740a2797200a0f65e10a8a9b5119ed3", func := "drawlot/drawlottop.WholeCommittee", spec := "wholeCommittee", inPlace := ["math/bits.Add64"], unfollowed := true, recurses := true, plainKeys := false, apart := false }
def WholeCommitteeSaid : Prop := wholeCommitteeRow.holds Tryz.pinned (OpenSpec.ofChange wholeCommitteeSpec)

/-- ITS FALSE NEIGHBOUR: 'it returns false'. Refute it at one input. -/
def wholeCommitteeWrong : ChangeSpec := { name := "wholeCommittee", fn := fun _ => fun
  | [d1, d2, d3] => { results := [.lit (.bool false)], args := [d1, d2, d3] }
  | _ => none }
def WholeCommitteeWrongFalsely : Prop := wholeCommitteeRow.holds Tryz.pinned (OpenSpec.ofChange wholeCommitteeWrong)

/-- 'drawlottop.WholeWays': WHATEVER THE INPUT: true; the input reads as it did. -/
def wholeWaysSpec : ChangeSpec := { name := "wholeWays", fn := fun _ => fun
  | [d1, d2] => { results := [.lit (.bool true)], args := [d1, d2] }
  | _ => none }
def wholeWaysRow : OpenClaim := { program := "ytekmngghebpciaagreat", sum := "87fdbf094d45f551a01baf78a7f2278f5740a2797200a0f65e10a8a9b5119ed3", func := "drawlot/drawlottop.WholeWays", spec := "wholeWays", inPlace := ["math/bits.Add64"], unfollowed := true, recurses := true, plainKeys := false, apart := false }
def WholeWaysSaid : Prop := wholeWaysRow.holds Tryz.pinned (OpenSpec.ofChange wholeWaysSpec)

/-- ITS FALSE NEIGHBOUR: 'it returns false'. Refute it at one input. -/
def wholeWaysWrong : ChangeSpec := { name := "wholeWays", fn := fun _ => fun
  | [d1, d2] => { results := [.lit (.bool false)], args := [d1, d2] }
  | _ => none }
def WholeWaysWrongFalsely : Prop := wholeWaysRow.holds Tryz.pinned (OpenSpec.ofChange wholeWaysWrong)

/- THE SECOND FORM. 'bulk': how many values and letters a reading holds, each counted each time it is reached (what is shared counts as often as it is met; a slice's spare places count too). A statement '..UptoSaid' is the law's where the arguments, and the package variables that the reading takes, are together of bulk at most 1048576: NARROWER than '..Said'. Prove '..Said' where nothing that the law and all that it calls make is longer than what came in: it says more and counts as full. Else prove '..UptoSaid'. A law counts once. -/
mutual
def uptoBulk {H : Type} : DataW H → Nat
  | .lit (.string bytes) => bytes.length + 1
  | .lit _ => 1
  | .nil => 1
  | .ptr d => uptoBulk d + 1
  | .slice elems spare => uptoBulkAll elems + uptoBulkAll spare + 1
  | .agg parts => uptoBulkAll parts + 1
  | .iface _ d => uptoBulk d + 1
  | .map entries => uptoBulkEntries entries + 1
  | .held _ => 1
def uptoBulkAll {H : Type} : List (DataW H) → Nat
  | [] => 0
  | d :: r => uptoBulk d + uptoBulkAll r
def uptoBulkEntries {H : Type} : List (Lit × DataW H) → Nat
  | [] => 0
  | x :: r => uptoBulkEntry x + uptoBulkEntries r
def uptoBulkEntry {H : Type} : Lit × DataW H → Nat
  | (.string bytes, d) => bytes.length + uptoBulk d + 1
  | (_, d) => uptoBulk d + 1
 end
def uptoSmall : (H : Type) → List (DataW H) → Bool := fun _ ds => decide (uptoBulkAll ds ≤ 1048576)
def OpenSpec.upto (s : _root_.Go.ChangeSpec) : _root_.Go.OpenSpec := { _root_.Go.OpenSpec.ofChange s with cond := some uptoSmall }

/-- 'drawlottop.WholeAlias', WHERE WHAT IT READS IS OF BULK AT MOST 1048576: true; the input reads as it did. -/
def wholeAliasUptoRow : OpenClaim := { program := "ytekmngghebpciaagreat", sum := "87fdbf094d45f551a01baf78a7f2278f5740a2797200a0f65e10a8a9b5119ed3", func := "drawlot/drawlottop.WholeAlias", spec := "wholeAlias", inPlace := ["math/bits.Add64"], unfollowed := true, recurses := true, plainKeys := false, apart := false, narrowed := true }
def WholeAliasUptoSaid : Prop := wholeAliasUptoRow.holds Tryz.pinned (OpenSpec.upto wholeAliasSpec)

/-- 'drawlottop.WholeTapes', WHERE WHAT IT READS IS OF BULK AT MOST 1048576: true; the input reads as it did. -/
def wholeTapesUptoRow : OpenClaim := { program := "ytekmngghebpciaagreat", sum := "87fdbf094d45f551a01baf78a7f2278f5740a2797200a0f65e10a8a9b5119ed3", func := "drawlot/drawlottop.WholeTapes", spec := "wholeTapes", inPlace := ["math/bits.Add64"], unfollowed := true, recurses := true, plainKeys := false, apart := false, narrowed := true }
def WholeTapesUptoSaid : Prop := wholeTapesUptoRow.holds Tryz.pinned (OpenSpec.upto wholeTapesSpec)

/-- 'drawlottop.WholeTickets', WHERE WHAT IT READS IS OF BULK AT MOST 1048576: true; the input reads as it did. -/
def wholeTicketsUptoRow : OpenClaim := { program := "ytekmngghebpciaagreat", sum := "87fdbf094d45f551a01baf78a7f2278f5740a2797200a0f65e10a8a9b5119ed3", func := "drawlot/drawlottop.WholeTickets", spec := "wholeTickets", inPlace := ["math/bits.Add64"], unfollowed := true, recurses := true, plainKeys := false, apart := false, narrowed := true }
def WholeTicketsUptoSaid : Prop := wholeTicketsUptoRow.holds Tryz.pinned (OpenSpec.upto wholeTicketsSpec)

/-- 'drawlottop.WholeStream', WHERE WHAT IT READS IS OF BULK AT MOST 1048576: true; the input reads as it did. -/
def wholeStreamUptoRow : OpenClaim := { program := "ytekmngghebpciaagreat", sum := "87fdbf094d45f551a01baf78a7f2278f5740a2797200a0f65e10a8a9b5119ed3", func := "drawlot/drawlottop.WholeStream", spec := "wholeStream", inPlace := ["math/bits.Add64"], unfollowed := true, recurses := true, plainKeys := false, apart := false, narrowed := true }
def WholeStreamUptoSaid : Prop := wholeStreamUptoRow.holds Tryz.pinned (OpenSpec.upto wholeStreamSpec)

/-- 'drawlottop.WholeCommittee', WHERE WHAT IT READS IS OF BULK AT MOST 1048576: true; the input reads as it did. -/
def wholeCommitteeUptoRow : OpenClaim := { program := "ytekmngghebpciaagreat", sum := "87fdbf094d45f551a01baf78a7f2278f5740a2797200a0f65e10a8a9b5119ed3", func := "drawlot/drawlottop.WholeCommittee", spec := "wholeCommittee", inPlace := ["math/bits.Add64"], unfollowed := true, recurses := true, plainKeys := false, apart := false, narrowed := true }
def WholeCommitteeUptoSaid : Prop := wholeCommitteeUptoRow.holds Tryz.pinned (OpenSpec.upto wholeCommitteeSpec)

/-- 'drawlottop.WholeWays', WHERE WHAT IT READS IS OF BULK AT MOST 1048576: true; the input reads as it did. -/
def wholeWaysUptoRow : OpenClaim := { program := "ytekmngghebpciaagreat", sum := "87fdbf094d45f551a01baf78a7f2278f5740a2797200a0f65e10a8a9b5119ed3", func := "drawlot/drawlottop.WholeWays", spec := "wholeWays", inPlace := ["math/bits.Add64"], unfollowed := true, recurses := true, plainKeys := false, apart := false, narrowed := true }
def WholeWaysUptoSaid : Prop := wholeWaysUptoRow.holds Tryz.pinned (OpenSpec.upto wholeWaysSpec)

end Rows
end Go.Proofs.YtekmngghebpciaaGreat
