/- Written by xprint.py, this session's own driver, for the seat YtgfkclgpphnjfaaDoor: contracts of Go functions, each saying that a call answers what a plain Lean function of the same name says, and, in a text named Law, the row of a law: its Go function answers true for every input. No conditions. -/
import Derived.Test.YtgfkclgpphnjfaaDoorProg
import Derived.Below
import Derived.Deep.Draws
import Derived.Deep.AppendLies
import Derived.Maps.AppendAt
import Derived.OwnWalk
import Derived.Laws.BytesArg
import Derived.Laws.MakeOwn
import Derived.Laws.OwnMore
import Derived.Deep.OwnRows
import Derived.Tactics
import Derived.Lib.ConvBytes
import Derived.Laws.Slices
import Derived.WalkKit
import Derived.KernelRfl
import Derived.RowKit3
import Derived.Deep.LoopGhost
import Derived.Deep.QuietTactic
import Derived.BigQuiet
import Derived.WideLaws
import Derived.Deep.DeepCutAuto
import Derived.Deep.CutBlock
import Derived.Deep.RegionHeld3
import Derived.Laws.Rows
import Derived.Lib.AppendStr
import Derived.ArgAppend
import Derived.Laws.IdiomCopy
import Derived.OrdersHeld
import Derived.Laws.BitsLemmas
import Derived.RowKit
import Derived.Laws.Externs
import Derived.Shelf.Spec.BitsCarry
import Derived.Lib.SliceRun
import Derived.Test.YtgfkclgpphnjfaaDoorWWords
import Derived.Test.YtgfkclgpphnjfaaDoorWLast
import Derived.Test.YtgfkclgpphnjfaaDoorWTab
import Derived.Test.YtgfkclgpphnjfaaDoorWFour
import Derived.Test.YtgfkclgpphnjfaaDoorWQPut
import Derived.Test.YtgfkclgpphnjfaaDoorWApart
import Derived.Test.YtgfkclgpphnjfaaDoorWArr
import Derived.Test.YtgfkclgpphnjfaaDoorWZeros
import Derived.Test.YtgfkclgpphnjfaaDoorWFoot
import Derived.Test.YtgfkclgpphnjfaaDoorWKept
import Derived.Test.YtgfkclgpphnjfaaDoorWShare
import Derived.Test.YtgfkclgpphnjfaaDoorWN
import Derived.Test.YtgfkclgpphnjfaaDoorWFootNe
import Derived.Test.YtgfkclgpphnjfaaDoorWAt
import Derived.Test.YtgfkclgpphnjfaaDoorWEqStruct
import Derived.Test.YtgfkclgpphnjfaaDoorWRepsOne
import Derived.Test.YtgfkclgpphnjfaaDoorWInv
import Derived.Test.YtgfkclgpphnjfaaDoorWInvWords
import Derived.Test.YtgfkclgpphnjfaaDoorWGuard
import Derived.Test.YtgfkclgpphnjfaaDoorWNEv
import Derived.Test.YtgfkclgpphnjfaaDoorWMore
import Derived.Test.YtgfkclgpphnjfaaDoorAr
import Derived.Test.YtgfkclgpphnjfaaDoorFmt
import Derived.Test.YtgfkclgpphnjfaaDoorFnv
namespace Go.Proofs.YtgfkclgpphnjfaaDoor.PN
open Go.RowKit Go.Proofs.YtgfkclgpphnjfaaDoorW.PrintWords Go.Proofs.YtgfkclgpphnjfaaDoorW.PrintLast Go.Proofs.YtgfkclgpphnjfaaDoorW.PrintMore
attribute [local go_sem] max2_int min2_int max_two min_two max_three min_three max_four min_four   -- for this text's walks alone
set_option linter.unusedVariables false
set_option linter.unusedSimpArgs false

@[go_sem] theorem arEq79 (w : World) (x y : List Int) : (Op.equalIn 10000 79 (.agg (Ar.cells .u8 24 x)) (.agg (Ar.cells .u8 24 y))).run Tryd.prog w = .ok (Ar.eqb 24 x y) w := Ar.run_eq 9998 79 5 Tryd.underlying79 (by kernel_rfl) Tryd.underlying5 x y w
@[go_sem] theorem arFold_u8_24 (y : List Int) : (#[.int .u8 (Ar.get 24 y 0), .int .u8 (Ar.get 24 y 1), .int .u8 (Ar.get 24 y 2), .int .u8 (Ar.get 24 y 3), .int .u8 (Ar.get 24 y 4), .int .u8 (Ar.get 24 y 5), .int .u8 (Ar.get 24 y 6), .int .u8 (Ar.get 24 y 7), .int .u8 (Ar.get 24 y 8), .int .u8 (Ar.get 24 y 9), .int .u8 (Ar.get 24 y 10), .int .u8 (Ar.get 24 y 11), .int .u8 (Ar.get 24 y 12), .int .u8 (Ar.get 24 y 13), .int .u8 (Ar.get 24 y 14), .int .u8 (Ar.get 24 y 15), .int .u8 (Ar.get 24 y 16), .int .u8 (Ar.get 24 y 17), .int .u8 (Ar.get 24 y 18), .int .u8 (Ar.get 24 y 19), .int .u8 (Ar.get 24 y 20), .int .u8 (Ar.get 24 y 21), .int .u8 (Ar.get 24 y 22), .int .u8 (Ar.get 24 y 23)] : Array Value) = Ar.cells .u8 24 y := (Ar.cells_eq .u8 24 y).symm
@[go_sem] theorem arEq87 (w : World) (x y : List Int) : (Op.equalIn 10000 87 (.agg (Ar.cells .u64 20 x)) (.agg (Ar.cells .u64 20 y))).run Tryd.prog w = .ok (Ar.eqb 20 x y) w := Ar.run_eq 9998 87 32 Tryd.underlying87 (by kernel_rfl) Tryd.underlying32 x y w
@[go_sem] theorem arFold_u64_20 (y : List Int) : (#[.int .u64 (Ar.get 20 y 0), .int .u64 (Ar.get 20 y 1), .int .u64 (Ar.get 20 y 2), .int .u64 (Ar.get 20 y 3), .int .u64 (Ar.get 20 y 4), .int .u64 (Ar.get 20 y 5), .int .u64 (Ar.get 20 y 6), .int .u64 (Ar.get 20 y 7), .int .u64 (Ar.get 20 y 8), .int .u64 (Ar.get 20 y 9), .int .u64 (Ar.get 20 y 10), .int .u64 (Ar.get 20 y 11), .int .u64 (Ar.get 20 y 12), .int .u64 (Ar.get 20 y 13), .int .u64 (Ar.get 20 y 14), .int .u64 (Ar.get 20 y 15), .int .u64 (Ar.get 20 y 16), .int .u64 (Ar.get 20 y 17), .int .u64 (Ar.get 20 y 18), .int .u64 (Ar.get 20 y 19)] : Array Value) = Ar.cells .u64 20 y := (Ar.cells_eq .u64 20 y).symm
@[go_sem] theorem arEq88 (w : World) (x y : List Int) : (Op.equalIn 10000 88 (.agg (Ar.cells .u8 65 x)) (.agg (Ar.cells .u8 65 y))).run Tryd.prog w = .ok (Ar.eqb 65 x y) w := Ar.run_eq 9998 88 5 Tryd.underlying88 (by kernel_rfl) Tryd.underlying5 x y w
@[go_sem] theorem arEq95 (w : World) (x y : List Int) : (Op.equalIn 10000 95 (.agg (Ar.cells .u8 32 x)) (.agg (Ar.cells .u8 32 y))).run Tryd.prog w = .ok (Ar.eqb 32 x y) w := Ar.run_eq 9998 95 5 Tryd.underlying95 (by kernel_rfl) Tryd.underlying5 x y w
@[go_sem] theorem arFold_u8_32 (y : List Int) : (#[.int .u8 (Ar.get 32 y 0), .int .u8 (Ar.get 32 y 1), .int .u8 (Ar.get 32 y 2), .int .u8 (Ar.get 32 y 3), .int .u8 (Ar.get 32 y 4), .int .u8 (Ar.get 32 y 5), .int .u8 (Ar.get 32 y 6), .int .u8 (Ar.get 32 y 7), .int .u8 (Ar.get 32 y 8), .int .u8 (Ar.get 32 y 9), .int .u8 (Ar.get 32 y 10), .int .u8 (Ar.get 32 y 11), .int .u8 (Ar.get 32 y 12), .int .u8 (Ar.get 32 y 13), .int .u8 (Ar.get 32 y 14), .int .u8 (Ar.get 32 y 15), .int .u8 (Ar.get 32 y 16), .int .u8 (Ar.get 32 y 17), .int .u8 (Ar.get 32 y 18), .int .u8 (Ar.get 32 y 19), .int .u8 (Ar.get 32 y 20), .int .u8 (Ar.get 32 y 21), .int .u8 (Ar.get 32 y 22), .int .u8 (Ar.get 32 y 23), .int .u8 (Ar.get 32 y 24), .int .u8 (Ar.get 32 y 25), .int .u8 (Ar.get 32 y 26), .int .u8 (Ar.get 32 y 27), .int .u8 (Ar.get 32 y 28), .int .u8 (Ar.get 32 y 29), .int .u8 (Ar.get 32 y 30), .int .u8 (Ar.get 32 y 31)] : Array Value) = Ar.cells .u8 32 y := (Ar.cells_eq .u8 32 y).symm
@[go_sem] theorem arEq96 (w : World) (x y : List Int) : (Op.equalIn 10000 96 (.agg (Ar.cells .u8 64 x)) (.agg (Ar.cells .u8 64 y))).run Tryd.prog w = .ok (Ar.eqb 64 x y) w := Ar.run_eq 9998 96 5 Tryd.underlying96 (by kernel_rfl) Tryd.underlying5 x y w



def errW : Option Int → Value
  | none => .nilIface
  | some c => .iface 0 (.int .i64 c)
theorem errW_none : errW none = .nilIface := rfl
theorem errW_some (c : Int) : errW (some c) = .iface 0 (.int .i64 c) := rfl

theorem info5 : (Tryd.prog.info? 5).map (fun i => (i.zero, i.size, i.bytes)) = some (some (.int .u8 0), 1, 1) := by kernel_rfl
theorem info9 : (Tryd.prog.info? 9).map (fun i => (i.zero, i.size, i.bytes)) = some (some (.string ⟨#[]⟩), 1, 16) := by kernel_rfl
theorem info26 : (Tryd.prog.info? 26).map (fun i => (i.zero, i.size, i.bytes)) = some (some (.slice none 0 0), 1, 24) := by kernel_rfl
theorem info45 : (Tryd.prog.info? 45).map (fun i => (i.zero, i.size, i.bytes)) = some (some (.int .u32 0), 1, 4) := by kernel_rfl
-- the values' own types
def rd_L1 (xs : List (List Int)) (i : Int) : (List Int) := xs.getD i.toNat ([] : List Int)
theorem at_L1 {w : World} {A : Option Addr} {n : Nat} {xs : List (List Int)} (h : Kd.C (Kd.slice 45 (Kd.int .u32)) w A n xs) (i : Int) (h0 : 0 ≤ i) (h1 : i < n) : ∃ ad A0 c0, A = some ad ∧ w.cell? (ad.add i.toNat) = some (.slice A0 (rd_L1 xs i).length c0) ∧ (rd_L1 xs i).length ≤ c0 ∧ (Kd.int .u32).C w A0 (rd_L1 xs i).length (rd_L1 xs i) := by
  obtain ⟨ad, c, e, _, hK, hc0⟩ := Kd.C_get h ([] : List Int) i h0 h1
  have hc : ∀ j u, c[j]? = some u → w.cell? (ad.add (i.toNat * 1 + j)) = some u := hc0
  obtain ⟨A0, c0, rfl, l0, g0⟩ := hK
  exact ⟨ad, A0, c0, e, by have hq := hc 0 _ rfl; rwa [Nat.mul_one, Nat.add_zero] at hq, l0, g0⟩

end Go.Proofs.YtgfkclgpphnjfaaDoor.PN
