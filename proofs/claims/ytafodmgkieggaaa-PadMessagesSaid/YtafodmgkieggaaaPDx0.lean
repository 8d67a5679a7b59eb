/- Written by xprint.py, this session's own driver, for the seat Ytafodmgkieggaaa: contracts of Go functions, each saying that a call answers what a plain Lean function of the same name says, and, in a text named Law, the row of a law: its Go function answers true for every input. No conditions. -/
import Derived.Test.YtafodmgkieggaaaProg
import Derived.Below
import Derived.Deep.Draws
import Derived.Deep.AppendLies
import Derived.Maps.AppendAt
import Derived.OwnWalk
import Derived.Laws.BytesArg
import Derived.Laws.MakeOwn
import Derived.Laws.OwnMore
import Derived.Deep.OwnRows
import Derived.Tactics
import Derived.Lib.ConvBytes
import Derived.Laws.Slices
import Derived.WalkKit
import Derived.KernelRfl
import Derived.RowKit3
import Derived.Deep.LoopGhost
import Derived.Deep.QuietTactic
import Derived.BigQuiet
import Derived.WideLaws
import Derived.Deep.DeepCutAuto
import Derived.Deep.CutBlock
import Derived.Deep.RegionHeld3
import Derived.Laws.Rows
import Derived.Lib.AppendStr
import Derived.ArgAppend
import Derived.Laws.IdiomCopy
import Derived.OrdersHeld
import Derived.Laws.BitsLemmas
import Derived.RowKit
import Derived.Laws.Externs
import Derived.Shelf.Spec.BitsCarry
import Derived.Lib.SliceRun
import Derived.Test.YtafodmgkieggaaaWWords
import Derived.Test.YtafodmgkieggaaaWLast
import Derived.Test.YtafodmgkieggaaaWTab
import Derived.Test.YtafodmgkieggaaaWFour
import Derived.Test.YtafodmgkieggaaaWQPut
import Derived.Test.YtafodmgkieggaaaWApart
import Derived.Test.YtafodmgkieggaaaWArr
import Derived.Test.YtafodmgkieggaaaWZeros
import Derived.Test.YtafodmgkieggaaaWFoot
import Derived.Test.YtafodmgkieggaaaWKept
import Derived.Test.YtafodmgkieggaaaWShare
import Derived.Test.YtafodmgkieggaaaWN
import Derived.Test.YtafodmgkieggaaaWFootNe
import Derived.Test.YtafodmgkieggaaaWAt
import Derived.Test.YtafodmgkieggaaaWEqStruct
import Derived.Test.YtafodmgkieggaaaWRepsOne
import Derived.Test.YtafodmgkieggaaaWInv
import Derived.Test.YtafodmgkieggaaaWInvWords
import Derived.Test.YtafodmgkieggaaaWGuard
import Derived.Test.YtafodmgkieggaaaWNEv
import Derived.Test.YtafodmgkieggaaaWMore
import Derived.Test.YtafodmgkieggaaaAr
import Derived.Test.YtafodmgkieggaaaCpy
import Derived.Test.YtafodmgkieggaaaMrk
import Derived.Test.YtafodmgkieggaaaFnv
namespace Go.Proofs.Ytafodmgkieggaaa.PD
open Go.RowKit Go.Proofs.YtafodmgkieggaaaW.PrintWords Go.Proofs.YtafodmgkieggaaaW.PrintLast Go.Proofs.YtafodmgkieggaaaW.PrintMore
attribute [local go_sem] max2_int min2_int max_two min_two max_three min_three max_four min_four   -- for this text's walks alone
set_option linter.unusedVariables false
set_option linter.unusedSimpArgs false

@[go_sem] theorem arEq36 (w : World) (x y : List Int) : (Op.equalIn 10000 36 (.agg (Ar.cells .u8 64 x)) (.agg (Ar.cells .u8 64 y))).run Try.prog w = .ok (Ar.eqb 64 x y) w := Ar.run_eq 9998 36 5 Try.underlying36 (by kernel_rfl) Try.underlying5 x y w
@[go_sem] theorem arEq37 (w : World) (x y : List Int) : (Op.equalIn 10000 37 (.agg (Ar.cells .u8 8 x)) (.agg (Ar.cells .u8 8 y))).run Try.prog w = .ok (Ar.eqb 8 x y) w := Ar.run_eq 9998 37 5 Try.underlying37 (by kernel_rfl) Try.underlying5 x y w
@[go_sem] theorem arFold_u8_8 (y : List Int) : (#[.int .u8 (Ar.get 8 y 0), .int .u8 (Ar.get 8 y 1), .int .u8 (Ar.get 8 y 2), .int .u8 (Ar.get 8 y 3), .int .u8 (Ar.get 8 y 4), .int .u8 (Ar.get 8 y 5), .int .u8 (Ar.get 8 y 6), .int .u8 (Ar.get 8 y 7)] : Array Value) = Ar.cells .u8 8 y := (Ar.cells_eq .u8 8 y).symm



def errW : Option Int → Value
  | none => .nilIface
  | some c => .iface 0 (.int .i64 c)
theorem errW_none : errW none = .nilIface := rfl
theorem errW_some (c : Int) : errW (some c) = .iface 0 (.int .i64 c) := rfl

theorem info5 : (Try.prog.info? 5).map (fun i => (i.zero, i.size, i.bytes)) = some (some (.int .u8 0), 1, 1) := by kernel_rfl
-- the values' own types
def rd_L1 (xs : List (List Int)) (i : Int) : (List Int) := xs.getD i.toNat ([] : List Int)
theorem at_L1 {w : World} {A : Option Addr} {n : Nat} {xs : List (List Int)} (h : Kd.C (Kd.slice 5 (Kd.int .u8)) w A n xs) (i : Int) (h0 : 0 ≤ i) (h1 : i < n) : ∃ ad A0 c0, A = some ad ∧ w.cell? (ad.add i.toNat) = some (.slice A0 (rd_L1 xs i).length c0) ∧ (rd_L1 xs i).length ≤ c0 ∧ (Kd.int .u8).C w A0 (rd_L1 xs i).length (rd_L1 xs i) := by
  obtain ⟨ad, c, e, _, hK, hc0⟩ := Kd.C_get h ([] : List Int) i h0 h1
  have hc : ∀ j u, c[j]? = some u → w.cell? (ad.add (i.toNat * 1 + j)) = some u := hc0
  obtain ⟨A0, c0, rfl, l0, g0⟩ := hK
  exact ⟨ad, A0, c0, e, by have hq := hc 0 _ rfl; rwa [Nat.mul_one, Nat.add_zero] at hq, l0, g0⟩

def rd_L2 (xs : List (List Int)) (i : Int) : List Int := xs.getD i.toNat (List.replicate 64 0)
theorem at_L2 (jj : Nat) (jz : Int) {w : World} {A : Option Addr} {n : Nat} {xs : List (List Int)} (h : Kd.C (Ar.K .u8 64) w A n xs) (i : Int) (h0 : 0 ≤ i) (h1 : i < n) (hj : jj < 64 := by decide) (hz : (jj : Int) = jz := by rfl) : ∃ ad, A = some ad ∧ w.cell? ((ad.add (i.toNat * 64)).add jj) = some (.int .u8 (Ar.get 64 (rd_L2 xs i) jz)) := by subst hz; exact Ar.elem_at1 jj hj h i h0 h1
end Go.Proofs.Ytafodmgkieggaaa.PD
