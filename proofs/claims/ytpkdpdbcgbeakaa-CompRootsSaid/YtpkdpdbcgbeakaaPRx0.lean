/- Written by xprint.py, this session's own driver, for the seat Ytpkdpdbcgbeakaa: contracts of Go functions, each saying that a call answers what a plain Lean function of the same name says, and, in a text named Law, the row of a law: its Go function answers true for every input. No conditions. -/
import Derived.Test.YtpkdpdbcgbeakaaProg
import Derived.Below
import Derived.Deep.Draws
import Derived.Deep.AppendLies
import Derived.Maps.AppendAt
import Derived.OwnWalk
import Derived.Laws.BytesArg
import Derived.Laws.MakeOwn
import Derived.Laws.OwnMore
import Derived.Deep.OwnRows
import Derived.Tactics
import Derived.Lib.ConvBytes
import Derived.Laws.Slices
import Derived.WalkKit
import Derived.KernelRfl
import Derived.RowKit3
import Derived.Deep.LoopGhost
import Derived.Deep.QuietTactic
import Derived.BigQuiet
import Derived.WideLaws
import Derived.Deep.DeepCutAuto
import Derived.Deep.CutBlock
import Derived.Deep.RegionHeld3
import Derived.Laws.Rows
import Derived.Lib.AppendStr
import Derived.ArgAppend
import Derived.Laws.IdiomCopy
import Derived.OrdersHeld
import Derived.Laws.BitsLemmas
import Derived.RowKit
import Derived.Laws.Externs
import Derived.Shelf.Spec.BitsCarry
import Derived.Lib.SliceRun
import Derived.Test.YtpkdpdbcgbeakaaWWords
import Derived.Test.YtpkdpdbcgbeakaaWLast
import Derived.Test.YtpkdpdbcgbeakaaWTab
import Derived.Test.YtpkdpdbcgbeakaaWFour
import Derived.Test.YtpkdpdbcgbeakaaWQPut
import Derived.Test.YtpkdpdbcgbeakaaWApart
import Derived.Test.YtpkdpdbcgbeakaaWArr
import Derived.Test.YtpkdpdbcgbeakaaWZeros
import Derived.Test.YtpkdpdbcgbeakaaWFoot
import Derived.Test.YtpkdpdbcgbeakaaWKept
import Derived.Test.YtpkdpdbcgbeakaaWShare
import Derived.Test.YtpkdpdbcgbeakaaWN
import Derived.Test.YtpkdpdbcgbeakaaWFootNe
import Derived.Test.YtpkdpdbcgbeakaaWAt
import Derived.Test.YtpkdpdbcgbeakaaWEqStruct
import Derived.Test.YtpkdpdbcgbeakaaWRepsOne
import Derived.Test.YtpkdpdbcgbeakaaWInv
import Derived.Test.YtpkdpdbcgbeakaaWInvWords
import Derived.Test.YtpkdpdbcgbeakaaWGuard
import Derived.Test.YtpkdpdbcgbeakaaWNEv
import Derived.Test.YtpkdpdbcgbeakaaWMore
import Derived.Test.YtpkdpdbcgbeakaaAr
namespace Go.Proofs.Ytpkdpdbcgbeakaa.PR
open Go.RowKit Go.Proofs.YtpkdpdbcgbeakaaW.PrintWords Go.Proofs.YtpkdpdbcgbeakaaW.PrintLast Go.Proofs.YtpkdpdbcgbeakaaW.PrintMore
attribute [local go_sem] max2_int min2_int max_two min_two max_three min_three max_four min_four   -- for this text's walks alone
set_option linter.unusedVariables false
set_option linter.unusedSimpArgs false

@[go_sem] theorem arEq27 (w : World) (x y : List Int) : (Op.equalIn 10000 27 (.agg (Ar.cells .u8 8 x)) (.agg (Ar.cells .u8 8 y))).run Try.prog w = .ok (Ar.eqb 8 x y) w := Ar.run_eq 9998 27 5 Try.underlying27 (by kernel_rfl) Try.underlying5 x y w
@[go_sem] theorem arFold_u8_8 (y : List Int) : (#[.int .u8 (Ar.get 8 y 0), .int .u8 (Ar.get 8 y 1), .int .u8 (Ar.get 8 y 2), .int .u8 (Ar.get 8 y 3), .int .u8 (Ar.get 8 y 4), .int .u8 (Ar.get 8 y 5), .int .u8 (Ar.get 8 y 6), .int .u8 (Ar.get 8 y 7)] : Array Value) = Ar.cells .u8 8 y := (Ar.cells_eq .u8 8 y).symm
@[go_sem] theorem arEq28 (w : World) (x y : List Int) : (Op.equalIn 10000 28 (.agg (Ar.cells .u8 4 x)) (.agg (Ar.cells .u8 4 y))).run Try.prog w = .ok (Ar.eqb 4 x y) w := Ar.run_eq 9998 28 5 Try.underlying28 (by kernel_rfl) Try.underlying5 x y w
@[go_sem] theorem arFold_u8_4 (y : List Int) : (#[.int .u8 (Ar.get 4 y 0), .int .u8 (Ar.get 4 y 1), .int .u8 (Ar.get 4 y 2), .int .u8 (Ar.get 4 y 3)] : Array Value) = Ar.cells .u8 4 y := (Ar.cells_eq .u8 4 y).symm
@[go_sem] theorem arEq39 (w : World) (x y : List Int) : (Op.equalIn 10000 39 (.agg (Ar.cells .u8 64 x)) (.agg (Ar.cells .u8 64 y))).run Try.prog w = .ok (Ar.eqb 64 x y) w := Ar.run_eq 9998 39 5 Try.underlying39 (by kernel_rfl) Try.underlying5 x y w
@[go_sem] theorem arEq40 (w : World) (x y : List Int) : (Op.equalIn 10000 40 (.agg (Ar.cells .u32 16 x)) (.agg (Ar.cells .u32 16 y))).run Try.prog w = .ok (Ar.eqb 16 x y) w := Ar.run_eq 9998 40 22 Try.underlying40 (by kernel_rfl) Try.underlying22 x y w
@[go_sem] theorem arFold_u32_16 (y : List Int) : (#[.int .u32 (Ar.get 16 y 0), .int .u32 (Ar.get 16 y 1), .int .u32 (Ar.get 16 y 2), .int .u32 (Ar.get 16 y 3), .int .u32 (Ar.get 16 y 4), .int .u32 (Ar.get 16 y 5), .int .u32 (Ar.get 16 y 6), .int .u32 (Ar.get 16 y 7), .int .u32 (Ar.get 16 y 8), .int .u32 (Ar.get 16 y 9), .int .u32 (Ar.get 16 y 10), .int .u32 (Ar.get 16 y 11), .int .u32 (Ar.get 16 y 12), .int .u32 (Ar.get 16 y 13), .int .u32 (Ar.get 16 y 14), .int .u32 (Ar.get 16 y 15)] : Array Value) = Ar.cells .u32 16 y := (Ar.cells_eq .u32 16 y).symm
@[go_sem] theorem arEq41 (w : World) (x y : List Int) : (Op.equalIn 10000 41 (.agg (Ar.cells .u32 64 x)) (.agg (Ar.cells .u32 64 y))).run Try.prog w = .ok (Ar.eqb 64 x y) w := Ar.run_eq 9998 41 22 Try.underlying41 (by kernel_rfl) Try.underlying22 x y w
@[go_sem] theorem arEq42 (w : World) (x y : List Int) : (Op.equalIn 10000 42 (.agg (Ar.cells .u32 64 x)) (.agg (Ar.cells .u32 64 y))).run Try.prog w = .ok (Ar.eqb 64 x y) w := Ar.run_eq 9998 42 22 Try.underlying42 (by kernel_rfl) Try.underlying22 x y w
@[go_sem] theorem arEq59 (w : World) (x y : List Int) : (Op.equalIn 10000 59 (.agg (Ar.cells .u32 8 x)) (.agg (Ar.cells .u32 8 y))).run Try.prog w = .ok (Ar.eqb 8 x y) w := Ar.run_eq 9998 59 22 Try.underlying59 (by kernel_rfl) Try.underlying22 x y w
@[go_sem] theorem arFold_u32_8 (y : List Int) : (#[.int .u32 (Ar.get 8 y 0), .int .u32 (Ar.get 8 y 1), .int .u32 (Ar.get 8 y 2), .int .u32 (Ar.get 8 y 3), .int .u32 (Ar.get 8 y 4), .int .u32 (Ar.get 8 y 5), .int .u32 (Ar.get 8 y 6), .int .u32 (Ar.get 8 y 7)] : Array Value) = Ar.cells .u32 8 y := (Ar.cells_eq .u32 8 y).symm
@[go_sem] theorem arEq60 (w : World) (x y : List Int) : (Op.equalIn 10000 60 (.agg (Ar.cells .u32 8 x)) (.agg (Ar.cells .u32 8 y))).run Try.prog w = .ok (Ar.eqb 8 x y) w := Ar.run_eq 9998 60 22 Try.underlying60 (by kernel_rfl) Try.underlying22 x y w
@[go_sem] theorem arEq67 (w : World) (x y : List Int) : (Op.equalIn 10000 67 (.agg (Ar.cells .u64 4 x)) (.agg (Ar.cells .u64 4 y))).run Try.prog w = .ok (Ar.eqb 4 x y) w := Ar.run_eq 9998 67 26 Try.underlying67 (by kernel_rfl) Try.underlying26 x y w
@[go_sem] theorem arFold_u64_4 (y : List Int) : (#[.int .u64 (Ar.get 4 y 0), .int .u64 (Ar.get 4 y 1), .int .u64 (Ar.get 4 y 2), .int .u64 (Ar.get 4 y 3)] : Array Value) = Ar.cells .u64 4 y := (Ar.cells_eq .u64 4 y).symm



def errW : Option Int → Value
  | none => .nilIface
  | some c => .iface 0 (.int .i64 c)
theorem errW_none : errW none = .nilIface := rfl
theorem errW_some (c : Int) : errW (some c) = .iface 0 (.int .i64 c) := rfl

-- the values' own types

end Go.Proofs.Ytpkdpdbcgbeakaa.PR
