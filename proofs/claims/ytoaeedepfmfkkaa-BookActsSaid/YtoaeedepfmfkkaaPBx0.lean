/- Written by xprint.py, this session's own driver, for the seat Ytoaeedepfmfkkaa: contracts of Go functions, each saying that a call answers what a plain Lean function of the same name says, and, in a text named Law, the row of a law: its Go function answers true for every input. No conditions. -/
import Derived.Test.YtoaeedepfmfkkaaProg
import Derived.Below
import Derived.Deep.Draws
import Derived.Deep.AppendLies
import Derived.Maps.AppendAt
import Derived.OwnWalk
import Derived.Laws.BytesArg
import Derived.Laws.MakeOwn
import Derived.Laws.OwnMore
import Derived.Deep.OwnRows
import Derived.Tactics
import Derived.Lib.ConvBytes
import Derived.Laws.Slices
import Derived.WalkKit
import Derived.KernelRfl
import Derived.RowKit3
import Derived.Deep.LoopGhost
import Derived.Deep.QuietTactic
import Derived.BigQuiet
import Derived.WideLaws
import Derived.Deep.DeepCutAuto
import Derived.Deep.CutBlock
import Derived.Deep.RegionHeld3
import Derived.Laws.Rows
import Derived.Lib.AppendStr
import Derived.ArgAppend
import Derived.Laws.IdiomCopy
import Derived.OrdersHeld
import Derived.Laws.BitsLemmas
import Derived.RowKit
import Derived.Laws.Externs
import Derived.Shelf.Spec.BitsCarry
import Derived.Lib.SliceRun
import Derived.Test.YtoaeedepfmfkkaaWWords
import Derived.Test.YtoaeedepfmfkkaaWLast
import Derived.Test.YtoaeedepfmfkkaaWTab
import Derived.Test.YtoaeedepfmfkkaaWFour
import Derived.Test.YtoaeedepfmfkkaaWQPut
import Derived.Test.YtoaeedepfmfkkaaWApart
import Derived.Test.YtoaeedepfmfkkaaWArr
import Derived.Test.YtoaeedepfmfkkaaWZeros
import Derived.Test.YtoaeedepfmfkkaaWFoot
import Derived.Test.YtoaeedepfmfkkaaWKept
import Derived.Test.YtoaeedepfmfkkaaWShare
import Derived.Test.YtoaeedepfmfkkaaWN
import Derived.Test.YtoaeedepfmfkkaaWFootNe
import Derived.Test.YtoaeedepfmfkkaaWAt
import Derived.Test.YtoaeedepfmfkkaaWEqStruct
import Derived.Test.YtoaeedepfmfkkaaWRepsOne
import Derived.Test.YtoaeedepfmfkkaaWInv
import Derived.Test.YtoaeedepfmfkkaaWInvWords
import Derived.Test.YtoaeedepfmfkkaaWGuard
import Derived.Test.YtoaeedepfmfkkaaWNEv
import Derived.Test.YtoaeedepfmfkkaaWMore
import Derived.Test.YtoaeedepfmfkkaaAr
import Derived.Test.YtoaeedepfmfkkaaArs
import Derived.Test.YtoaeedepfmfkkaaFat
import Derived.Test.YtoaeedepfmfkkaaMap
import Derived.Test.YtoaeedepfmfkkaaFnv
namespace Go.Proofs.Ytoaeedepfmfkkaa.PB
open Go.RowKit Go.Proofs.YtoaeedepfmfkkaaW.PrintWords Go.Proofs.YtoaeedepfmfkkaaW.PrintLast Go.Proofs.YtoaeedepfmfkkaaW.PrintMore
attribute [local go_sem] max2_int min2_int max_two min_two max_three min_three max_four min_four   -- for this text's walks alone
set_option linter.unusedVariables false
set_option linter.unusedSimpArgs false

@[go_sem] theorem arEq23 (w : World) (x y : List Int) : (Op.equalIn 10000 23 (.agg (Ar.cells .u8 32 x)) (.agg (Ar.cells .u8 32 y))).run Try.prog w = .ok (Ar.eqb 32 x y) w := Ar.run_eq 9998 23 5 Try.underlying23 (by kernel_rfl) Try.underlying5 x y w
@[go_sem] theorem arFold_u8_32 (y : List Int) : (#[.int .u8 (Ar.get 32 y 0), .int .u8 (Ar.get 32 y 1), .int .u8 (Ar.get 32 y 2), .int .u8 (Ar.get 32 y 3), .int .u8 (Ar.get 32 y 4), .int .u8 (Ar.get 32 y 5), .int .u8 (Ar.get 32 y 6), .int .u8 (Ar.get 32 y 7), .int .u8 (Ar.get 32 y 8), .int .u8 (Ar.get 32 y 9), .int .u8 (Ar.get 32 y 10), .int .u8 (Ar.get 32 y 11), .int .u8 (Ar.get 32 y 12), .int .u8 (Ar.get 32 y 13), .int .u8 (Ar.get 32 y 14), .int .u8 (Ar.get 32 y 15), .int .u8 (Ar.get 32 y 16), .int .u8 (Ar.get 32 y 17), .int .u8 (Ar.get 32 y 18), .int .u8 (Ar.get 32 y 19), .int .u8 (Ar.get 32 y 20), .int .u8 (Ar.get 32 y 21), .int .u8 (Ar.get 32 y 22), .int .u8 (Ar.get 32 y 23), .int .u8 (Ar.get 32 y 24), .int .u8 (Ar.get 32 y 25), .int .u8 (Ar.get 32 y 26), .int .u8 (Ar.get 32 y 27), .int .u8 (Ar.get 32 y 28), .int .u8 (Ar.get 32 y 29), .int .u8 (Ar.get 32 y 30), .int .u8 (Ar.get 32 y 31)] : Array Value) = Ar.cells .u8 32 y := (Ar.cells_eq .u8 32 y).symm
@[go_sem] theorem arEq24 (w : World) (x y : List Int) : (Op.equalIn 10000 24 (.agg (Ar.cells .u8 32 x)) (.agg (Ar.cells .u8 32 y))).run Try.prog w = .ok (Ar.eqb 32 x y) w := Ar.run_eq 9998 24 5 Try.underlying24 (by kernel_rfl) Try.underlying5 x y w
@[go_sem] theorem arEq96 (w : World) (x y : List Int) : (Op.equalIn 10000 96 (.agg (Ar.cells .u8 4 x)) (.agg (Ar.cells .u8 4 y))).run Try.prog w = .ok (Ar.eqb 4 x y) w := Ar.run_eq 9998 96 5 Try.underlying96 (by kernel_rfl) Try.underlying5 x y w
@[go_sem] theorem arFold_u8_4 (y : List Int) : (#[.int .u8 (Ar.get 4 y 0), .int .u8 (Ar.get 4 y 1), .int .u8 (Ar.get 4 y 2), .int .u8 (Ar.get 4 y 3)] : Array Value) = Ar.cells .u8 4 y := (Ar.cells_eq .u8 4 y).symm
@[go_sem] theorem arEq98 (w : World) (x y : List Int) : (Op.equalIn 10000 98 (.agg (Ar.cells .u8 8 x)) (.agg (Ar.cells .u8 8 y))).run Try.prog w = .ok (Ar.eqb 8 x y) w := Ar.run_eq 9998 98 5 Try.underlying98 (by kernel_rfl) Try.underlying5 x y w
@[go_sem] theorem arFold_u8_8 (y : List Int) : (#[.int .u8 (Ar.get 8 y 0), .int .u8 (Ar.get 8 y 1), .int .u8 (Ar.get 8 y 2), .int .u8 (Ar.get 8 y 3), .int .u8 (Ar.get 8 y 4), .int .u8 (Ar.get 8 y 5), .int .u8 (Ar.get 8 y 6), .int .u8 (Ar.get 8 y 7)] : Array Value) = Ar.cells .u8 8 y := (Ar.cells_eq .u8 8 y).symm



def errW : Option Int → Value
  | none => .nilIface
  | some c => .iface 0 (.int .i64 c)
theorem errW_none : errW none = .nilIface := rfl
theorem errW_some (c : Int) : errW (some c) = .iface 0 (.int .i64 c) := rfl

theorem info25 : (Try.prog.info? 25).map (fun i => (i.zero, i.size, i.bytes)) = some (some (.int .u64 0), 1, 8) := by kernel_rfl
theorem info27 : (Try.prog.info? 27).map (fun i => (i.zero, i.size, i.bytes)) = some (some (.agg #[(.int .u8 0), (.int .u8 0), (.int .u8 0), (.int .u8 0), (.int .u8 0), (.int .u8 0), (.int .u8 0), (.int .u8 0), (.int .u8 0), (.int .u8 0), (.int .u8 0), (.int .u8 0), (.int .u8 0), (.int .u8 0), (.int .u8 0), (.int .u8 0), (.int .u8 0), (.int .u8 0), (.int .u8 0), (.int .u8 0), (.int .u8 0), (.int .u8 0), (.int .u8 0), (.int .u8 0), (.int .u8 0), (.int .u8 0), (.int .u8 0), (.int .u8 0), (.int .u8 0), (.int .u8 0), (.int .u8 0), (.int .u8 0), (.int .u64 0), (.int .u64 0)]), 34, 48) := by kernel_rfl
-- the values' own types
def rd_L0 (xs : List (List Int)) (i : Int) : List Int := xs.getD i.toNat (List.replicate 32 0)
theorem at_L0 (jj : Nat) (jz : Int) {w : World} {A : Option Addr} {n : Nat} {xs : List (List Int)} (h : Kd.C (Ar.K .u8 32) w A n xs) (i : Int) (h0 : 0 ≤ i) (h1 : i < n) (hj : jj < 32 := by decide) (hz : (jj : Int) = jz := by rfl) : ∃ ad, A = some ad ∧ w.cell? ((ad.add (i.toNat * 32)).add jj) = some (.int .u8 (Ar.get 32 (rd_L0 xs i) jz)) := by subst hz; exact Ar.elem_at1 jj hj h i h0 h1
structure S27 where
  f0 : (List Int)
  f1 : Int
  f2 : Int
def z27 : S27 := ⟨(List.replicate 32 0), (0 : Int), (0 : Int)⟩
def k27 : Kd S27 := Kd.iso (Kd.pair (Ar.K .u8 32) (Kd.pair (Kd.int .u64) (Kd.int .u64))) (fun x : S27 => (x.f0, x.f1, x.f2))
theorem k27_open {w : World} {x : S27} {cs : List Value} (h : k27.K w x cs) : cs = ((Ar.cells .u8 32 x.f0 ++ #[.int .u64 x.f1, .int .u64 x.f2]) : Array Value).toList := by
  obtain ⟨_, _, rfl, rfl, ⟨_, _, rfl, rfl, rfl⟩⟩ := h
  simp
theorem k27_openM {w : World} {base : Nat} {ok : Nat → Prop} {x : S27} {cs : List Value} (h : k27.M w base ok x cs) : cs = ((Ar.cells .u8 32 x.f0 ++ #[.int .u64 x.f1, .int .u64 x.f2]) : Array Value).toList := by
  obtain ⟨_, _, rfl, rfl, ⟨_, _, rfl, rfl, rfl⟩⟩ := h
  simp
theorem k27_mk (w : World) (x : S27) : k27.K w x ((Ar.cells .u8 32 x.f0 ++ #[.int .u64 x.f1, .int .u64 x.f2]) : Array Value).toList := by
  rw [show ((Ar.cells .u8 32 x.f0 ++ #[.int .u64 x.f1, .int .u64 x.f2]) : Array Value).toList = (Ar.cells .u8 32 x.f0).toList ++ ([.int .u64 x.f1] ++ ([.int .u64 x.f2])) from by simp]
  exact ⟨_, _, rfl, rfl, ⟨_, _, rfl, rfl, rfl⟩⟩
theorem k27_mkM (w : World) (base : Nat) (ok : Nat → Prop) (x : S27) : k27.M w base ok x ((Ar.cells .u8 32 x.f0 ++ #[.int .u64 x.f1, .int .u64 x.f2]) : Array Value).toList := by
  rw [show ((Ar.cells .u8 32 x.f0 ++ #[.int .u64 x.f1, .int .u64 x.f2]) : Array Value).toList = (Ar.cells .u8 32 x.f0).toList ++ ([.int .u64 x.f1] ++ ([.int .u64 x.f2])) from by simp]
  exact ⟨_, _, rfl, rfl, ⟨_, _, rfl, rfl, rfl⟩⟩
def rd_T27 (xs : List S27) (i : Int) : S27 := xs.getD i.toNat z27
theorem at_T27 {w : World} {A : Option Addr} {n : Nat} {xs : List S27} (h : Kd.C k27 w A n xs) (i : Int) (h0 : 0 ≤ i) (h1 : i < n) : ∃ ad, A = some ad ∧ (∀ (j_ : Nat) (u_ : Value), ((Ar.cells .u8 32 ((rd_T27 xs i).f0) ++ #[.int .u64 ((rd_T27 xs i).f1), .int .u64 ((rd_T27 xs i).f2)]) : Array Value).toList[j_]? = some u_ → w.cell? (ad.add (i.toNat * 34 + j_)) = some u_) ∧ w.cell? ⟨(ad.add (i.toNat * 34)).block, (ad.add (i.toNat * 34)).off + 32, none⟩ = some (.int .u64 ((rd_T27 xs i).f1)) ∧ w.cell? ⟨(ad.add (i.toNat * 34)).block, (ad.add (i.toNat * 34)).off + 33, none⟩ = some (.int .u64 ((rd_T27 xs i).f2)) := by
  obtain ⟨ad, c, e, _, hK, hc0⟩ := Kd.C_get h z27 i h0 h1
  have hc : ∀ (j : Nat) (u : Value), c[j]? = some u → w.cell? (ad.add (i.toNat * 34 + j)) = some u := hc0
  rw [k27_open hK, show xs.getD i.toNat z27 = rd_T27 xs i from rfl] at hc
  exact ⟨ad, e, hc, by rw [← add_field _ _ 32 (by omega)]; exact hc 32 _ (by simp [List.getElem?_append, Ar.cells_size]), by rw [← add_field _ _ 33 (by omega)]; exact hc 33 _ (by simp [List.getElem?_append, Ar.cells_size])⟩
structure S47 where
  f0 : Int
  f1 : Int
  f2 : (List Int)
  f3 : Int
def z47 : S47 := ⟨(0 : Int), (0 : Int), (List.replicate 32 0), (0 : Int)⟩
def k47 : Kd S47 := Kd.iso (Kd.pair (Kd.int .i64) (Kd.pair (Kd.int .i64) (Kd.pair (Ar.K .u8 32) (Kd.int .u64)))) (fun x : S47 => (x.f0, x.f1, x.f2, x.f3))
theorem k47_open {w : World} {x : S47} {cs : List Value} (h : k47.K w x cs) : cs = ((#[.int .i64 x.f0, .int .i64 x.f1] ++ (Ar.cells .u8 32 x.f2 ++ #[.int .u64 x.f3])) : Array Value).toList := by
  obtain ⟨_, _, rfl, rfl, ⟨_, _, rfl, rfl, ⟨_, _, rfl, rfl, rfl⟩⟩⟩ := h
  simp
theorem k47_openM {w : World} {base : Nat} {ok : Nat → Prop} {x : S47} {cs : List Value} (h : k47.M w base ok x cs) : cs = ((#[.int .i64 x.f0, .int .i64 x.f1] ++ (Ar.cells .u8 32 x.f2 ++ #[.int .u64 x.f3])) : Array Value).toList := by
  obtain ⟨_, _, rfl, rfl, ⟨_, _, rfl, rfl, ⟨_, _, rfl, rfl, rfl⟩⟩⟩ := h
  simp
theorem k47_mk (w : World) (x : S47) : k47.K w x ((#[.int .i64 x.f0, .int .i64 x.f1] ++ (Ar.cells .u8 32 x.f2 ++ #[.int .u64 x.f3])) : Array Value).toList := by
  rw [show ((#[.int .i64 x.f0, .int .i64 x.f1] ++ (Ar.cells .u8 32 x.f2 ++ #[.int .u64 x.f3])) : Array Value).toList = [.int .i64 x.f0] ++ ([.int .i64 x.f1] ++ ((Ar.cells .u8 32 x.f2).toList ++ ([.int .u64 x.f3]))) from by simp]
  exact ⟨_, _, rfl, rfl, ⟨_, _, rfl, rfl, ⟨_, _, rfl, rfl, rfl⟩⟩⟩
theorem k47_mkM (w : World) (base : Nat) (ok : Nat → Prop) (x : S47) : k47.M w base ok x ((#[.int .i64 x.f0, .int .i64 x.f1] ++ (Ar.cells .u8 32 x.f2 ++ #[.int .u64 x.f3])) : Array Value).toList := by
  rw [show ((#[.int .i64 x.f0, .int .i64 x.f1] ++ (Ar.cells .u8 32 x.f2 ++ #[.int .u64 x.f3])) : Array Value).toList = [.int .i64 x.f0] ++ ([.int .i64 x.f1] ++ ((Ar.cells .u8 32 x.f2).toList ++ ([.int .u64 x.f3]))) from by simp]
  exact ⟨_, _, rfl, rfl, ⟨_, _, rfl, rfl, ⟨_, _, rfl, rfl, rfl⟩⟩⟩
def rd_T47 (xs : List S47) (i : Int) : S47 := xs.getD i.toNat z47
theorem at_T47 {w : World} {A : Option Addr} {n : Nat} {xs : List S47} (h : Kd.C k47 w A n xs) (i : Int) (h0 : 0 ≤ i) (h1 : i < n) : ∃ ad, A = some ad ∧ w.cell? (ad.add (i.toNat * 35)) = some (.int .i64 ((rd_T47 xs i).f0)) ∧ w.cell? ⟨(ad.add (i.toNat * 35)).block, (ad.add (i.toNat * 35)).off + 1, none⟩ = some (.int .i64 ((rd_T47 xs i).f1)) ∧ (∀ (j_ : Nat) (u_ : Value), ((#[.int .i64 ((rd_T47 xs i).f0), .int .i64 ((rd_T47 xs i).f1)] ++ (Ar.cells .u8 32 ((rd_T47 xs i).f2) ++ #[.int .u64 ((rd_T47 xs i).f3)])) : Array Value).toList[j_]? = some u_ → w.cell? (ad.add (i.toNat * 35 + j_)) = some u_) ∧ w.cell? ⟨(ad.add (i.toNat * 35)).block, (ad.add (i.toNat * 35)).off + 34, none⟩ = some (.int .u64 ((rd_T47 xs i).f3)) := by
  obtain ⟨ad, c, e, _, hK, hc0⟩ := Kd.C_get h z47 i h0 h1
  have hc : ∀ (j : Nat) (u : Value), c[j]? = some u → w.cell? (ad.add (i.toNat * 35 + j)) = some u := hc0
  rw [k47_open hK, show xs.getD i.toNat z47 = rd_T47 xs i from rfl] at hc
  exact ⟨ad, e, by have hq := hc 0 _ (by simp; rfl); rwa [Nat.add_zero] at hq, by rw [← add_field _ _ 1 (by omega)]; exact hc 1 _ (by simp [List.getElem?_append, Ar.cells_size]), hc, by rw [← add_field _ _ 34 (by omega)]; exact hc 34 _ (by simp [List.getElem?_append, Ar.cells_size])⟩
theorem clip46 (w : World) (A0 : Option Addr) (n c0 : Nat) (hc : n ≤ c0) : Calls Try.prog 46 #[.slice A0 n c0] w fun e w' => e = .returned (.slice A0 n n) ∧ w' = w := by
  go_enter Try.func46, Try.ntmps46
  go_wp2
  go_ret
  exact ⟨rfl, rfl⟩
theorem clipN46 (w : World) (A0 : Option Addr) (n c0 : Nat) (hc : n ≤ c0) : Calls Try.prog 46 #[.slice A0 n c0] w fun e w' => e = .returned (.slice A0 n n) ∧ ∃ nd, w' = World.drewN w nd := (clip46 w A0 n c0 hc).mono fun e w' h => ⟨h.1, 0, h.2⟩
def eqS27 (x y : S27) : Bool := Ar.eqb 32 x.f0 y.f0 && (x.f1 == y.f1 && (x.f2 == y.f2))
theorem fatEq27 (w : World) (x0 y0 : List Int) (x1 y1 : Int) (x2 y2 : Int) : (Op.equalIn 10000 27 (.agg (Ar.cells .u8 32 x0 ++ #[.int .u64 x1, .int .u64 x2])) (.agg (Ar.cells .u8 32 y0 ++ #[.int .u64 y1, .int .u64 y2]))).run Try.prog w = .ok (eqS27 (⟨x0, x1, x2⟩ : S27) (⟨y0, y1, y2⟩ : S27)) w := by
  show _ = Result.ok (Ar.eqb 32 x0 y0 && (x1 == y1 && (x2 == y2))) w
  refine eqA_of (d := 9999) Try.underlying27 (by kernel_rfl) ?_
  refine eqf_cons (by rfl) (Ar.part_seg (T := 24) (c := 0) (D := Ar.cells .u8 32 x0) Try.underlying24 rfl (by rw [Ar.cells_size]; kernel_rfl) Ar.in_first) (Ar.part_seg (T := 24) (c := 0) (D := Ar.cells .u8 32 y0) Try.underlying24 rfl (by rw [Ar.cells_size]; kernel_rfl) Ar.in_first) (Ar.run_eq 9997 24 5 Try.underlying24 (by kernel_rfl) Try.underlying5 x0 y0 w) ?_
  refine eqf_cons (by rfl) (Ar.part_one (T := 25) (c := 32) (v := .int .u64 x1) Try.underlying25 rfl (by simp [Array.getElem?_append, Ar.cells_size])) (Ar.part_one (T := 25) (c := 32) (v := .int .u64 y1) Try.underlying25 rfl (by simp [Array.getElem?_append, Ar.cells_size])) (by go_simp) ?_
  exact eqf_last (by rfl) (Ar.part_one (T := 25) (c := 33) (v := .int .u64 x2) Try.underlying25 rfl (by simp [Array.getElem?_append, Ar.cells_size])) (Ar.part_one (T := 25) (c := 33) (v := .int .u64 y2) Try.underlying25 rfl (by simp [Array.getElem?_append, Ar.cells_size])) (by go_simp)
@[go_sem] theorem fatBuild27_0 (w : World) (x0 : List Int) : (Instr.build 27 #[(0, .agg (Ar.cells .u8 32 x0))]).run Try.prog w = .ok (.agg (Ar.cells .u8 32 x0 ++ #[.int .u64 0, .int .u64 0])) w := by
  refine run_build (P := Try.prog) w 27 _ _ ?_
  rw [Ar.built_struct (Z := (Ar.cells .u8 32 (List.replicate 32 0) ++ #[.int .u64 0, .int .u64 0])) (pl := [(0, 32), (32, 1), (33, 1)]) _ (by kernel_rfl) Try.underlying27 (by kernel_rfl)]
  refine (Ar.fill_first (D := Ar.cells .u8 32 x0) (by rw [Ar.cells_size]; rfl) (by simp [Ar.cells_size])).trans ?_
  rfl
@[go_sem] theorem fatBuild27_0_1_2 (w : World) (x0 : List Int) (x1 : Int) (x2 : Int) : (Instr.build 27 #[(0, .agg (Ar.cells .u8 32 x0)), (1, .int .u64 x1), (2, .int .u64 x2)]).run Try.prog w = .ok (.agg (Ar.cells .u8 32 x0 ++ #[.int .u64 x1, .int .u64 x2])) w := by
  refine run_build (P := Try.prog) w 27 _ _ ?_
  rw [Ar.built_struct (Z := (Ar.cells .u8 32 (List.replicate 32 0) ++ #[.int .u64 0, .int .u64 0])) (pl := [(0, 32), (32, 1), (33, 1)]) _ (by kernel_rfl) Try.underlying27 (by kernel_rfl)]
  refine (Ar.fill_first (D := Ar.cells .u8 32 x0) (by rw [Ar.cells_size]; rfl) (by simp [Ar.cells_size])).trans ?_
  refine (Ar.fill_one (c := 32) (by rfl) rfl (by simp [Ar.cells_size])).trans ?_
  rw [show ((Ar.cells .u8 32 x0 ++ #[.int .u64 0, .int .u64 0]) : Array Value).setIfInBounds 32 (.int .u64 x1) = (Ar.cells .u8 32 x0 ++ #[.int .u64 x1, .int .u64 0]) from (show ((Ar.cells .u8 32 x0 ++ #[.int .u64 0, .int .u64 0]) : Array Value).setIfInBounds (32 + 0) (.int .u64 x1) = (Ar.cells .u8 32 x0 ++ #[.int .u64 x1, .int .u64 0]) by rw [Ar.set_tail (a := 32) (c := 0) _ (by simp [Ar.cells_size])]; rfl)]
  refine (Ar.fill_one (c := 33) (by rfl) rfl (by simp [Ar.cells_size])).trans ?_
  rw [show ((Ar.cells .u8 32 x0 ++ #[.int .u64 x1, .int .u64 0]) : Array Value).setIfInBounds 33 (.int .u64 x2) = (Ar.cells .u8 32 x0 ++ #[.int .u64 x1, .int .u64 x2]) from (show ((Ar.cells .u8 32 x0 ++ #[.int .u64 x1, .int .u64 0]) : Array Value).setIfInBounds (32 + 1) (.int .u64 x2) = (Ar.cells .u8 32 x0 ++ #[.int .u64 x1, .int .u64 x2]) by rw [Ar.set_tail (a := 32) (c := 1) _ (by simp [Ar.cells_size])]; rfl)]
  rfl
@[go_sem] theorem fatBuild27_0_2 (w : World) (x0 : List Int) (x2 : Int) : (Instr.build 27 #[(0, .agg (Ar.cells .u8 32 x0)), (2, .int .u64 x2)]).run Try.prog w = .ok (.agg (Ar.cells .u8 32 x0 ++ #[.int .u64 0, .int .u64 x2])) w := by
  refine run_build (P := Try.prog) w 27 _ _ ?_
  rw [Ar.built_struct (Z := (Ar.cells .u8 32 (List.replicate 32 0) ++ #[.int .u64 0, .int .u64 0])) (pl := [(0, 32), (32, 1), (33, 1)]) _ (by kernel_rfl) Try.underlying27 (by kernel_rfl)]
  refine (Ar.fill_first (D := Ar.cells .u8 32 x0) (by rw [Ar.cells_size]; rfl) (by simp [Ar.cells_size])).trans ?_
  refine (Ar.fill_one (c := 33) (by rfl) rfl (by simp [Ar.cells_size])).trans ?_
  rw [show ((Ar.cells .u8 32 x0 ++ #[.int .u64 0, .int .u64 0]) : Array Value).setIfInBounds 33 (.int .u64 x2) = (Ar.cells .u8 32 x0 ++ #[.int .u64 0, .int .u64 x2]) from (show ((Ar.cells .u8 32 x0 ++ #[.int .u64 0, .int .u64 0]) : Array Value).setIfInBounds (32 + 1) (.int .u64 x2) = (Ar.cells .u8 32 x0 ++ #[.int .u64 0, .int .u64 x2]) by rw [Ar.set_tail (a := 32) (c := 1) _ (by simp [Ar.cells_size])]; rfl)]
  rfl

end Go.Proofs.Ytoaeedepfmfkkaa.PB
