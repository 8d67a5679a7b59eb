/- Written by xprint.py, this session's own driver, for the seat Ytkbpdnhbmceajaa: contracts of Go functions, each saying that a call answers what a plain Lean function of the same name says, and, in a text named Law, the row of a law: its Go function answers true for every input. No conditions. -/
import Derived.Test.YtkbpdnhbmceajaaProg
import Derived.Below
import Derived.Deep.Draws
import Derived.Deep.AppendLies
import Derived.Maps.AppendAt
import Derived.OwnWalk
import Derived.Laws.BytesArg
import Derived.Laws.MakeOwn
import Derived.Laws.OwnMore
import Derived.Deep.OwnRows
import Derived.Tactics
import Derived.Lib.ConvBytes
import Derived.Laws.Slices
import Derived.WalkKit
import Derived.KernelRfl
import Derived.RowKit3
import Derived.Deep.LoopGhost
import Derived.Deep.QuietTactic
import Derived.BigQuiet
import Derived.WideLaws
import Derived.Deep.DeepCutAuto
import Derived.Deep.CutBlock
import Derived.Deep.RegionHeld3
import Derived.Laws.Rows
import Derived.Lib.AppendStr
import Derived.ArgAppend
import Derived.Laws.IdiomCopy
import Derived.OrdersHeld
import Derived.Laws.BitsLemmas
import Derived.RowKit
import Derived.Laws.Externs
import Derived.Shelf.Spec.BitsCarry
import Derived.Lib.SliceRun
import Derived.Test.YtkbpdnhbmceajaaWWords
import Derived.Test.YtkbpdnhbmceajaaWLast
import Derived.Test.YtkbpdnhbmceajaaWTab
import Derived.Test.YtkbpdnhbmceajaaWFour
import Derived.Test.YtkbpdnhbmceajaaWQPut
import Derived.Test.YtkbpdnhbmceajaaWApart
import Derived.Test.YtkbpdnhbmceajaaWArr
import Derived.Test.YtkbpdnhbmceajaaWZeros
import Derived.Test.YtkbpdnhbmceajaaWFoot
import Derived.Test.YtkbpdnhbmceajaaWKept
import Derived.Test.YtkbpdnhbmceajaaWShare
import Derived.Test.YtkbpdnhbmceajaaWN
import Derived.Test.YtkbpdnhbmceajaaWFootNe
import Derived.Test.YtkbpdnhbmceajaaWAt
import Derived.Test.YtkbpdnhbmceajaaWEqStruct
import Derived.Test.YtkbpdnhbmceajaaWRepsOne
import Derived.Test.YtkbpdnhbmceajaaWInv
import Derived.Test.YtkbpdnhbmceajaaWInvWords
import Derived.Test.YtkbpdnhbmceajaaWGuard
import Derived.Test.YtkbpdnhbmceajaaWNEv
import Derived.Test.YtkbpdnhbmceajaaWMore
import Derived.Test.YtkbpdnhbmceajaaAr
import Derived.Test.YtkbpdnhbmceajaaArs
import Derived.Test.YtkbpdnhbmceajaaFat
import Derived.Test.YtkbpdnhbmceajaaFnv
import Derived.Test.YtkbpdnhbmceajaaCel
import Derived.Test.YtkbpdnhbmceajaaFix
namespace Go.Proofs.Ytkbpdnhbmceajaa.PQ
open Go.RowKit Go.Proofs.YtkbpdnhbmceajaaW.PrintWords Go.Proofs.YtkbpdnhbmceajaaW.PrintLast Go.Proofs.YtkbpdnhbmceajaaW.PrintMore
attribute [local go_sem] max2_int min2_int max_two min_two max_three min_three max_four min_four   -- for this text's walks alone
set_option linter.unusedVariables false
set_option linter.unusedSimpArgs false

@[go_sem] theorem arEq36 (w : World) (x y : List Int) : (Op.equalIn 10000 36 (.agg (Ar.cells .u8 32 x)) (.agg (Ar.cells .u8 32 y))).run Try.prog w = .ok (Ar.eqb 32 x y) w := Ar.run_eq 9998 36 5 Try.underlying36 (by kernel_rfl) Try.underlying5 x y w
@[go_sem] theorem arFold_u8_32 (y : List Int) : (#[.int .u8 (Ar.get 32 y 0), .int .u8 (Ar.get 32 y 1), .int .u8 (Ar.get 32 y 2), .int .u8 (Ar.get 32 y 3), .int .u8 (Ar.get 32 y 4), .int .u8 (Ar.get 32 y 5), .int .u8 (Ar.get 32 y 6), .int .u8 (Ar.get 32 y 7), .int .u8 (Ar.get 32 y 8), .int .u8 (Ar.get 32 y 9), .int .u8 (Ar.get 32 y 10), .int .u8 (Ar.get 32 y 11), .int .u8 (Ar.get 32 y 12), .int .u8 (Ar.get 32 y 13), .int .u8 (Ar.get 32 y 14), .int .u8 (Ar.get 32 y 15), .int .u8 (Ar.get 32 y 16), .int .u8 (Ar.get 32 y 17), .int .u8 (Ar.get 32 y 18), .int .u8 (Ar.get 32 y 19), .int .u8 (Ar.get 32 y 20), .int .u8 (Ar.get 32 y 21), .int .u8 (Ar.get 32 y 22), .int .u8 (Ar.get 32 y 23), .int .u8 (Ar.get 32 y 24), .int .u8 (Ar.get 32 y 25), .int .u8 (Ar.get 32 y 26), .int .u8 (Ar.get 32 y 27), .int .u8 (Ar.get 32 y 28), .int .u8 (Ar.get 32 y 29), .int .u8 (Ar.get 32 y 30), .int .u8 (Ar.get 32 y 31)] : Array Value) = Ar.cells .u8 32 y := (Ar.cells_eq .u8 32 y).symm
@[go_sem] theorem arEq37 (w : World) (x y : List Int) : (Op.equalIn 10000 37 (.agg (Ar.cells .u8 32 x)) (.agg (Ar.cells .u8 32 y))).run Try.prog w = .ok (Ar.eqb 32 x y) w := Ar.run_eq 9998 37 5 Try.underlying37 (by kernel_rfl) Try.underlying5 x y w
@[go_sem] theorem arEq60 (w : World) (x y : List Int) : (Op.equalIn 10000 60 (.agg (Ar.cells .u8 4 x)) (.agg (Ar.cells .u8 4 y))).run Try.prog w = .ok (Ar.eqb 4 x y) w := Ar.run_eq 9998 60 5 Try.underlying60 (by kernel_rfl) Try.underlying5 x y w
@[go_sem] theorem arFold_u8_4 (y : List Int) : (#[.int .u8 (Ar.get 4 y 0), .int .u8 (Ar.get 4 y 1), .int .u8 (Ar.get 4 y 2), .int .u8 (Ar.get 4 y 3)] : Array Value) = Ar.cells .u8 4 y := (Ar.cells_eq .u8 4 y).symm
@[go_sem] theorem arEq62 (w : World) (x y : List Int) : (Op.equalIn 10000 62 (.agg (Ar.cells .u8 8 x)) (.agg (Ar.cells .u8 8 y))).run Try.prog w = .ok (Ar.eqb 8 x y) w := Ar.run_eq 9998 62 5 Try.underlying62 (by kernel_rfl) Try.underlying5 x y w
@[go_sem] theorem arFold_u8_8 (y : List Int) : (#[.int .u8 (Ar.get 8 y 0), .int .u8 (Ar.get 8 y 1), .int .u8 (Ar.get 8 y 2), .int .u8 (Ar.get 8 y 3), .int .u8 (Ar.get 8 y 4), .int .u8 (Ar.get 8 y 5), .int .u8 (Ar.get 8 y 6), .int .u8 (Ar.get 8 y 7)] : Array Value) = Ar.cells .u8 8 y := (Ar.cells_eq .u8 8 y).symm



def errW : Option Int → Value
  | none => .nilIface
  | some c => .iface 0 (.int .i64 c)
theorem errW_none : errW none = .nilIface := rfl
theorem errW_some (c : Int) : errW (some c) = .iface 0 (.int .i64 c) := rfl

theorem info5 : (Try.prog.info? 5).map (fun i => (i.zero, i.size, i.bytes)) = some (some (.int .u8 0), 1, 1) := by kernel_rfl
theorem info39 : (Try.prog.info? 39).map (fun i => (i.zero, i.size, i.bytes)) = some (some (.agg #[(.int .i64 0), (.int .i64 0), (.int .u64 0), (.int .u8 0), (.int .u8 0), (.int .u8 0), (.int .u8 0), (.int .u8 0), (.int .u8 0), (.int .u8 0), (.int .u8 0), (.int .u8 0), (.int .u8 0), (.int .u8 0), (.int .u8 0), (.int .u8 0), (.int .u8 0), (.int .u8 0), (.int .u8 0), (.int .u8 0), (.int .u8 0), (.int .u8 0), (.int .u8 0), (.int .u8 0), (.int .u8 0), (.int .u8 0), (.int .u8 0), (.int .u8 0), (.int .u8 0), (.int .u8 0), (.int .u8 0), (.int .u8 0), (.int .u8 0), (.int .u8 0), (.int .u8 0), (.int .i64 0)]), 36, 64) := by kernel_rfl
-- the values' own types
def rd_L3 (xs : List (List Int)) (i : Int) : List Int := xs.getD i.toNat (List.replicate 32 0)
theorem at_L3 (jj : Nat) (jz : Int) {w : World} {A : Option Addr} {n : Nat} {xs : List (List Int)} (h : Kd.C (Ar.K .u8 32) w A n xs) (i : Int) (h0 : 0 ≤ i) (h1 : i < n) (hj : jj < 32 := by decide) (hz : (jj : Int) = jz := by rfl) : ∃ ad, A = some ad ∧ w.cell? ((ad.add (i.toNat * 32)).add jj) = some (.int .u8 (Ar.get 32 (rd_L3 xs i) jz)) := by subst hz; exact Ar.elem_at1 jj hj h i h0 h1
structure S39 where
  f0 : Int
  f1 : Int
  f2 : Int
  f3 : (List Int)
  f4 : Int
def z39 : S39 := ⟨(0 : Int), (0 : Int), (0 : Int), (List.replicate 32 0), (0 : Int)⟩
def k39 : Kd S39 := Kd.iso (Kd.pair (Kd.int .i64) (Kd.pair (Kd.int .i64) (Kd.pair (Kd.int .u64) (Kd.pair (Ar.K .u8 32) (Kd.int .i64))))) (fun x : S39 => (x.f0, x.f1, x.f2, x.f3, x.f4))
theorem k39_open {w : World} {x : S39} {cs : List Value} (h : k39.K w x cs) : cs = ((#[.int .i64 x.f0, .int .i64 x.f1, .int .u64 x.f2] ++ (Ar.cells .u8 32 x.f3 ++ #[.int .i64 x.f4])) : Array Value).toList := by
  obtain ⟨_, _, rfl, rfl, ⟨_, _, rfl, rfl, ⟨_, _, rfl, rfl, ⟨_, _, rfl, rfl, rfl⟩⟩⟩⟩ := h
  simp
theorem k39_openM {w : World} {base : Nat} {ok : Nat → Prop} {x : S39} {cs : List Value} (h : k39.M w base ok x cs) : cs = ((#[.int .i64 x.f0, .int .i64 x.f1, .int .u64 x.f2] ++ (Ar.cells .u8 32 x.f3 ++ #[.int .i64 x.f4])) : Array Value).toList := by
  obtain ⟨_, _, rfl, rfl, ⟨_, _, rfl, rfl, ⟨_, _, rfl, rfl, ⟨_, _, rfl, rfl, rfl⟩⟩⟩⟩ := h
  simp
theorem k39_mk (w : World) (x : S39) : k39.K w x ((#[.int .i64 x.f0, .int .i64 x.f1, .int .u64 x.f2] ++ (Ar.cells .u8 32 x.f3 ++ #[.int .i64 x.f4])) : Array Value).toList := by
  rw [show ((#[.int .i64 x.f0, .int .i64 x.f1, .int .u64 x.f2] ++ (Ar.cells .u8 32 x.f3 ++ #[.int .i64 x.f4])) : Array Value).toList = [.int .i64 x.f0] ++ ([.int .i64 x.f1] ++ ([.int .u64 x.f2] ++ ((Ar.cells .u8 32 x.f3).toList ++ ([.int .i64 x.f4])))) from by simp]
  exact ⟨_, _, rfl, rfl, ⟨_, _, rfl, rfl, ⟨_, _, rfl, rfl, ⟨_, _, rfl, rfl, rfl⟩⟩⟩⟩
theorem k39_mkM (w : World) (base : Nat) (ok : Nat → Prop) (x : S39) : k39.M w base ok x ((#[.int .i64 x.f0, .int .i64 x.f1, .int .u64 x.f2] ++ (Ar.cells .u8 32 x.f3 ++ #[.int .i64 x.f4])) : Array Value).toList := by
  rw [show ((#[.int .i64 x.f0, .int .i64 x.f1, .int .u64 x.f2] ++ (Ar.cells .u8 32 x.f3 ++ #[.int .i64 x.f4])) : Array Value).toList = [.int .i64 x.f0] ++ ([.int .i64 x.f1] ++ ([.int .u64 x.f2] ++ ((Ar.cells .u8 32 x.f3).toList ++ ([.int .i64 x.f4])))) from by simp]
  exact ⟨_, _, rfl, rfl, ⟨_, _, rfl, rfl, ⟨_, _, rfl, rfl, ⟨_, _, rfl, rfl, rfl⟩⟩⟩⟩
def rd_T39 (xs : List S39) (i : Int) : S39 := xs.getD i.toNat z39
theorem at_T39 {w : World} {A : Option Addr} {n : Nat} {xs : List S39} (h : Kd.C k39 w A n xs) (i : Int) (h0 : 0 ≤ i) (h1 : i < n) : ∃ ad, A = some ad ∧ w.cell? (ad.add (i.toNat * 36)) = some (.int .i64 ((rd_T39 xs i).f0)) ∧ w.cell? ⟨(ad.add (i.toNat * 36)).block, (ad.add (i.toNat * 36)).off + 1, none⟩ = some (.int .i64 ((rd_T39 xs i).f1)) ∧ w.cell? ⟨(ad.add (i.toNat * 36)).block, (ad.add (i.toNat * 36)).off + 2, none⟩ = some (.int .u64 ((rd_T39 xs i).f2)) ∧ (∀ (j_ : Nat) (u_ : Value), ((#[.int .i64 ((rd_T39 xs i).f0), .int .i64 ((rd_T39 xs i).f1), .int .u64 ((rd_T39 xs i).f2)] ++ (Ar.cells .u8 32 ((rd_T39 xs i).f3) ++ #[.int .i64 ((rd_T39 xs i).f4)])) : Array Value).toList[j_]? = some u_ → w.cell? (ad.add (i.toNat * 36 + j_)) = some u_) ∧ w.cell? ⟨(ad.add (i.toNat * 36)).block, (ad.add (i.toNat * 36)).off + 35, none⟩ = some (.int .i64 ((rd_T39 xs i).f4)) := by
  obtain ⟨ad, c, e, _, hK, hc0⟩ := Kd.C_get h z39 i h0 h1
  have hc : ∀ (j : Nat) (u : Value), c[j]? = some u → w.cell? (ad.add (i.toNat * 36 + j)) = some u := hc0
  rw [k39_open hK, show xs.getD i.toNat z39 = rd_T39 xs i from rfl] at hc
  exact ⟨ad, e, by have hq := hc 0 _ (by simp; rfl); rwa [Nat.add_zero] at hq, by rw [← add_field _ _ 1 (by omega)]; exact hc 1 _ (by simp [List.getElem?_append, Ar.cells_size]), by rw [← add_field _ _ 2 (by omega)]; exact hc 2 _ (by simp [List.getElem?_append, Ar.cells_size]), hc, by rw [← add_field _ _ 35 (by omega)]; exact hc 35 _ (by simp [List.getElem?_append, Ar.cells_size])⟩
def eqS39 (x y : S39) : Bool := x.f0 == y.f0 && (x.f1 == y.f1 && (x.f2 == y.f2 && (Ar.eqb 32 x.f3 y.f3 && (x.f4 == y.f4))))
theorem fatEq39 (w : World) (x0 y0 : Int) (x1 y1 : Int) (x2 y2 : Int) (x3 y3 : List Int) (x4 y4 : Int) : (Op.equalIn 10000 39 (.agg (#[.int .i64 x0, .int .i64 x1, .int .u64 x2] ++ (Ar.cells .u8 32 x3 ++ #[.int .i64 x4]))) (.agg (#[.int .i64 y0, .int .i64 y1, .int .u64 y2] ++ (Ar.cells .u8 32 y3 ++ #[.int .i64 y4])))).run Try.prog w = .ok (eqS39 (⟨x0, x1, x2, x3, x4⟩ : S39) (⟨y0, y1, y2, y3, y4⟩ : S39)) w := by
  show _ = Result.ok (x0 == y0 && (x1 == y1 && (x2 == y2 && (Ar.eqb 32 x3 y3 && (x4 == y4))))) w
  refine eqA_of (d := 9999) Try.underlying39 (by kernel_rfl) ?_
  refine eqf_cons (by rfl) (Ar.part_one (T := 3) (c := 0) (v := .int .i64 x0) Try.underlying3 rfl (by first | (simp [Array.getElem?_append, Ar.cells_size]; done) | (rw [← Array.getElem?_toList]; exact (Ar.at_head rfl)))) (Ar.part_one (T := 3) (c := 0) (v := .int .i64 y0) Try.underlying3 rfl (by first | (simp [Array.getElem?_append, Ar.cells_size]; done) | (rw [← Array.getElem?_toList]; exact (Ar.at_head rfl)))) (by go_simp) ?_
  refine eqf_cons (by rfl) (Ar.part_one (T := 3) (c := 1) (v := .int .i64 x1) Try.underlying3 rfl (by first | (simp [Array.getElem?_append, Ar.cells_size]; done) | (rw [← Array.getElem?_toList]; exact (Ar.at_head rfl)))) (Ar.part_one (T := 3) (c := 1) (v := .int .i64 y1) Try.underlying3 rfl (by first | (simp [Array.getElem?_append, Ar.cells_size]; done) | (rw [← Array.getElem?_toList]; exact (Ar.at_head rfl)))) (by go_simp) ?_
  refine eqf_cons (by rfl) (Ar.part_one (T := 35) (c := 2) (v := .int .u64 x2) Try.underlying35 rfl (by first | (simp [Array.getElem?_append, Ar.cells_size]; done) | (rw [← Array.getElem?_toList]; exact (Ar.at_head rfl)))) (Ar.part_one (T := 35) (c := 2) (v := .int .u64 y2) Try.underlying35 rfl (by first | (simp [Array.getElem?_append, Ar.cells_size]; done) | (rw [← Array.getElem?_toList]; exact (Ar.at_head rfl)))) (by go_simp) ?_
  refine eqf_cons (by rfl) (Ar.part_seg (T := 37) (c := 3) (D := Ar.cells .u8 32 x3) Try.underlying37 rfl (by rw [Ar.cells_size]; kernel_rfl) (Ar.in_skip (a := 3) (c := 0) (by simp [Ar.cells_size]) Ar.in_first)) (Ar.part_seg (T := 37) (c := 3) (D := Ar.cells .u8 32 y3) Try.underlying37 rfl (by rw [Ar.cells_size]; kernel_rfl) (Ar.in_skip (a := 3) (c := 0) (by simp [Ar.cells_size]) Ar.in_first)) (Ar.run_eq 9997 37 5 Try.underlying37 (by kernel_rfl) Try.underlying5 x3 y3 w) ?_
  exact eqf_last (by rfl) (Ar.part_one (T := 3) (c := 35) (v := .int .i64 x4) Try.underlying3 rfl (by first | (simp [Array.getElem?_append, Ar.cells_size]; done) | (rw [← Array.getElem?_toList]; exact (Ar.at_skip (a := 3) (c := 32) (by simp [Ar.cells_size]) (Ar.at_skip (a := 32) (c := 0) (by simp [Ar.cells_size]) rfl))))) (Ar.part_one (T := 3) (c := 35) (v := .int .i64 y4) Try.underlying3 rfl (by first | (simp [Array.getElem?_append, Ar.cells_size]; done) | (rw [← Array.getElem?_toList]; exact (Ar.at_skip (a := 3) (c := 32) (by simp [Ar.cells_size]) (Ar.at_skip (a := 32) (c := 0) (by simp [Ar.cells_size]) rfl))))) (by go_simp)
@[go_sem] theorem fatBuild39_0 (w : World) (x0 : Int) : (Instr.build 39 #[(0, .int .i64 x0)]).run Try.prog w = .ok (.agg (#[.int .i64 x0, .int .i64 0, .int .u64 0] ++ (Ar.cells .u8 32 (List.replicate 32 0) ++ #[.int .i64 0]))) w := by
  refine run_build (P := Try.prog) w 39 _ _ ?_
  rw [Ar.built_struct (Z := (#[.int .i64 0, .int .i64 0, .int .u64 0] ++ (Ar.cells .u8 32 (List.replicate 32 0) ++ #[.int .i64 0]))) (pl := [(0, 1), (1, 1), (2, 1), (3, 32), (35, 1)]) _ (by kernel_rfl) Try.underlying39 (by kernel_rfl)]
  refine (Ar.fill_one (c := 0) (by rfl) rfl (by simp [Ar.cells_size])).trans ?_
  rw [show ((#[.int .i64 0, .int .i64 0, .int .u64 0] ++ (Ar.cells .u8 32 (List.replicate 32 0) ++ #[.int .i64 0])) : Array Value).setIfInBounds 0 (.int .i64 x0) = (#[.int .i64 x0, .int .i64 0, .int .u64 0] ++ (Ar.cells .u8 32 (List.replicate 32 0) ++ #[.int .i64 0])) from (by rw [Ar.set_head _ (by simp)]; rfl)]
  rfl
@[go_sem] theorem fatBuild39_0_4 (w : World) (x0 : Int) (x4 : Int) : (Instr.build 39 #[(0, .int .i64 x0), (4, .int .i64 x4)]).run Try.prog w = .ok (.agg (#[.int .i64 x0, .int .i64 0, .int .u64 0] ++ (Ar.cells .u8 32 (List.replicate 32 0) ++ #[.int .i64 x4]))) w := by
  refine run_build (P := Try.prog) w 39 _ _ ?_
  rw [Ar.built_struct (Z := (#[.int .i64 0, .int .i64 0, .int .u64 0] ++ (Ar.cells .u8 32 (List.replicate 32 0) ++ #[.int .i64 0]))) (pl := [(0, 1), (1, 1), (2, 1), (3, 32), (35, 1)]) _ (by kernel_rfl) Try.underlying39 (by kernel_rfl)]
  refine (Ar.fill_one (c := 0) (by rfl) rfl (by simp [Ar.cells_size])).trans ?_
  rw [show ((#[.int .i64 0, .int .i64 0, .int .u64 0] ++ (Ar.cells .u8 32 (List.replicate 32 0) ++ #[.int .i64 0])) : Array Value).setIfInBounds 0 (.int .i64 x0) = (#[.int .i64 x0, .int .i64 0, .int .u64 0] ++ (Ar.cells .u8 32 (List.replicate 32 0) ++ #[.int .i64 0])) from (by rw [Ar.set_head _ (by simp)]; rfl)]
  refine (Ar.fill_one (c := 35) (by rfl) rfl (by simp [Ar.cells_size])).trans ?_
  rw [show ((#[.int .i64 x0, .int .i64 0, .int .u64 0] ++ (Ar.cells .u8 32 (List.replicate 32 0) ++ #[.int .i64 0])) : Array Value).setIfInBounds 35 (.int .i64 x4) = (#[.int .i64 x0, .int .i64 0, .int .u64 0] ++ (Ar.cells .u8 32 (List.replicate 32 0) ++ #[.int .i64 x4])) from (by rw [show (35 : Nat) = (3 + (32 + 0)) from rfl]; rw [Ar.set_tail (a := 3) (c := (32 + 0)) _ (by simp [Ar.cells_size])]; rw [Ar.set_tail (a := 32) (c := 0) _ (by simp [Ar.cells_size])]; rfl)]
  rfl
@[go_sem] theorem fatBuild39_4 (w : World) (x4 : Int) : (Instr.build 39 #[(4, .int .i64 x4)]).run Try.prog w = .ok (.agg (#[.int .i64 0, .int .i64 0, .int .u64 0] ++ (Ar.cells .u8 32 (List.replicate 32 0) ++ #[.int .i64 x4]))) w := by
  refine run_build (P := Try.prog) w 39 _ _ ?_
  rw [Ar.built_struct (Z := (#[.int .i64 0, .int .i64 0, .int .u64 0] ++ (Ar.cells .u8 32 (List.replicate 32 0) ++ #[.int .i64 0]))) (pl := [(0, 1), (1, 1), (2, 1), (3, 32), (35, 1)]) _ (by kernel_rfl) Try.underlying39 (by kernel_rfl)]
  refine (Ar.fill_one (c := 35) (by rfl) rfl (by simp [Ar.cells_size])).trans ?_
  rw [show ((#[.int .i64 0, .int .i64 0, .int .u64 0] ++ (Ar.cells .u8 32 (List.replicate 32 0) ++ #[.int .i64 0])) : Array Value).setIfInBounds 35 (.int .i64 x4) = (#[.int .i64 0, .int .i64 0, .int .u64 0] ++ (Ar.cells .u8 32 (List.replicate 32 0) ++ #[.int .i64 x4])) from (by rw [show (35 : Nat) = (3 + (32 + 0)) from rfl]; rw [Ar.set_tail (a := 3) (c := (32 + 0)) _ (by simp [Ar.cells_size])]; rw [Ar.set_tail (a := 32) (c := 0) _ (by simp [Ar.cells_size])]; rfl)]
  rfl

end Go.Proofs.Ytkbpdnhbmceajaa.PQ
