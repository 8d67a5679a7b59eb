/- Written by xprint.py, this session's own driver, for the seat Ytkbpdnhbmceajaa: contracts of Go functions, each saying that a call answers what a plain Lean function of the same name says, and, in a text named Law, the row of a law: its Go function answers true for every input. No conditions. -/
import Derived.Test.YtkbpdnhbmceajaaPQx0
import Derived.Test.YtkbpdnhbmceajaaPQx5
import Derived.Test.YtkbpdnhbmceajaaPQx6
import Derived.Test.YtkbpdnhbmceajaaPQx8
namespace Go.Proofs.Ytkbpdnhbmceajaa.PQ
open Go.RowKit Go.Proofs.YtkbpdnhbmceajaaW.PrintWords Go.Proofs.YtkbpdnhbmceajaaW.PrintLast Go.Proofs.YtkbpdnhbmceajaaW.PrintMore
attribute [local go_sem] max2_int min2_int max_two min_two max_three min_three max_four min_four   -- for this text's walks alone
set_option linter.unusedVariables false
set_option linter.unusedSimpArgs false

/-! ### drawlotref24_Right: function 17 -/
mutual
def drawlotref24_Right.j0 : Nat → Bool → Option (Bool)
 | 0, _ => none
 | k + 1, x2 => some x2
def drawlotref24_Right.j1 : Nat → Bool → Int → Int → Int → List Int → Int → Option (Bool)
 | 0, _, _, _, _, _, _ => none
 | k + 1, x74, x253000, x253001, x253002, x253003, x253004 => if x74 = true then (some false) else (if x253001 ≥ 0 then (if x253001 < 4294967296 then (if x253004 ≥ 0 then (drawlotref24_Right.j2 k (decide (x253004 < 4294967296))) else (drawlotref24_Right.j2 k false)) else (drawlotref24_Right.j2 k false)) else (drawlotref24_Right.j2 k false))
def drawlotref24_Right.j2 : Nat → Bool → Option (Bool)
 | 0, _ => none
 | k + 1, x2 => some x2
end
def drawlotref24_Right.f (k : Nat) (a0_0 : Int) (a0_1 : Int) (a0_2 : Int) (a0_3 : List Int) (a0_4 : Int) : Option (Bool) := (drawlotref24_fields.f k a0_0).bind fun t253 => (if t253.toList = ([] : List UInt8) then ((drawlotref24_Size.f k a0_4).bind fun bt254 => (if (eqS39 (⟨a0_0, a0_1, a0_2, a0_3, a0_4⟩ : S39) (⟨0, 0, 0, (List.replicate 32 0), a0_4⟩ : S39)) = true then (if a0_4 ≥ 0 then (if a0_4 ≤ 255 then (drawlotref24_Right.j0 k (!bt254.2)) else (drawlotref24_Right.j0 k false)) else (drawlotref24_Right.j0 k false)) else (drawlotref24_Right.j0 k false))) else ((drawlotref24_has.f k t253 119).bind fun t256 => (if t256 = true then ((drawlotref24_has.f k t253 110).bind fun t257 => (if t257 = true then ((drawlotref24_has.f k t253 97).bind fun t258 => (if t258 = true then ((drawlotref24_has.f k t253 104).bind fun t259 => (if t259 = true then (drawlotref24_Right.j1 k false a0_0 a0_1 a0_2 a0_3 a0_4) else (drawlotref24_Right.j1 k (!(Ar.eqb 32 a0_3 [0, 0, 0, 0, 0, 0, 0, 0, 0, 0, 0, 0, 0, 0, 0, 0, 0, 0, 0, 0, 0, 0, 0, 0, 0, 0, 0, 0, 0, 0, 0, 0])) a0_0 a0_1 a0_2 a0_3 a0_4))) else (if a0_2 = 0 then ((drawlotref24_has.f k t253 104).bind fun t260 => (if t260 = true then (drawlotref24_Right.j1 k false a0_0 a0_1 a0_2 a0_3 a0_4) else (drawlotref24_Right.j1 k (!(Ar.eqb 32 a0_3 [0, 0, 0, 0, 0, 0, 0, 0, 0, 0, 0, 0, 0, 0, 0, 0, 0, 0, 0, 0, 0, 0, 0, 0, 0, 0, 0, 0, 0, 0, 0, 0])) a0_0 a0_1 a0_2 a0_3 a0_4))) else (drawlotref24_Right.j1 k true a0_0 a0_1 a0_2 a0_3 a0_4)))) else (if a0_4 = 0 then ((drawlotref24_has.f k t253 97).bind fun t261 => (if t261 = true then ((drawlotref24_has.f k t253 104).bind fun t262 => (if t262 = true then (drawlotref24_Right.j1 k false a0_0 a0_1 a0_2 a0_3 a0_4) else (drawlotref24_Right.j1 k (!(Ar.eqb 32 a0_3 [0, 0, 0, 0, 0, 0, 0, 0, 0, 0, 0, 0, 0, 0, 0, 0, 0, 0, 0, 0, 0, 0, 0, 0, 0, 0, 0, 0, 0, 0, 0, 0])) a0_0 a0_1 a0_2 a0_3 a0_4))) else (if a0_2 = 0 then ((drawlotref24_has.f k t253 104).bind fun t263 => (if t263 = true then (drawlotref24_Right.j1 k false a0_0 a0_1 a0_2 a0_3 a0_4) else (drawlotref24_Right.j1 k (!(Ar.eqb 32 a0_3 [0, 0, 0, 0, 0, 0, 0, 0, 0, 0, 0, 0, 0, 0, 0, 0, 0, 0, 0, 0, 0, 0, 0, 0, 0, 0, 0, 0, 0, 0, 0, 0])) a0_0 a0_1 a0_2 a0_3 a0_4))) else (drawlotref24_Right.j1 k true a0_0 a0_1 a0_2 a0_3 a0_4)))) else (drawlotref24_Right.j1 k true a0_0 a0_1 a0_2 a0_3 a0_4)))) else (if a0_1 = 0 then ((drawlotref24_has.f k t253 110).bind fun t264 => (if t264 = true then ((drawlotref24_has.f k t253 97).bind fun t265 => (if t265 = true then ((drawlotref24_has.f k t253 104).bind fun t266 => (if t266 = true then (drawlotref24_Right.j1 k false a0_0 a0_1 a0_2 a0_3 a0_4) else (drawlotref24_Right.j1 k (!(Ar.eqb 32 a0_3 [0, 0, 0, 0, 0, 0, 0, 0, 0, 0, 0, 0, 0, 0, 0, 0, 0, 0, 0, 0, 0, 0, 0, 0, 0, 0, 0, 0, 0, 0, 0, 0])) a0_0 a0_1 a0_2 a0_3 a0_4))) else (if a0_2 = 0 then ((drawlotref24_has.f k t253 104).bind fun t267 => (if t267 = true then (drawlotref24_Right.j1 k false a0_0 a0_1 a0_2 a0_3 a0_4) else (drawlotref24_Right.j1 k (!(Ar.eqb 32 a0_3 [0, 0, 0, 0, 0, 0, 0, 0, 0, 0, 0, 0, 0, 0, 0, 0, 0, 0, 0, 0, 0, 0, 0, 0, 0, 0, 0, 0, 0, 0, 0, 0])) a0_0 a0_1 a0_2 a0_3 a0_4))) else (drawlotref24_Right.j1 k true a0_0 a0_1 a0_2 a0_3 a0_4)))) else (if a0_4 = 0 then ((drawlotref24_has.f k t253 97).bind fun t268 => (if t268 = true then ((drawlotref24_has.f k t253 104).bind fun t269 => (if t269 = true then (drawlotref24_Right.j1 k false a0_0 a0_1 a0_2 a0_3 a0_4) else (drawlotref24_Right.j1 k (!(Ar.eqb 32 a0_3 [0, 0, 0, 0, 0, 0, 0, 0, 0, 0, 0, 0, 0, 0, 0, 0, 0, 0, 0, 0, 0, 0, 0, 0, 0, 0, 0, 0, 0, 0, 0, 0])) a0_0 a0_1 a0_2 a0_3 a0_4))) else (if a0_2 = 0 then ((drawlotref24_has.f k t253 104).bind fun t270 => (if t270 = true then (drawlotref24_Right.j1 k false a0_0 a0_1 a0_2 a0_3 a0_4) else (drawlotref24_Right.j1 k (!(Ar.eqb 32 a0_3 [0, 0, 0, 0, 0, 0, 0, 0, 0, 0, 0, 0, 0, 0, 0, 0, 0, 0, 0, 0, 0, 0, 0, 0, 0, 0, 0, 0, 0, 0, 0, 0])) a0_0 a0_1 a0_2 a0_3 a0_4))) else (drawlotref24_Right.j1 k true a0_0 a0_1 a0_2 a0_3 a0_4)))) else (drawlotref24_Right.j1 k true a0_0 a0_1 a0_2 a0_3 a0_4)))) else (drawlotref24_Right.j1 k true a0_0 a0_1 a0_2 a0_3 a0_4)))))
theorem drawlotref24_Right.mono_l : ∀ k, (∀ y0, LeO (drawlotref24_Right.j0 k y0) (drawlotref24_Right.j0 (k + 1) y0)) ∧ (∀ y0 y1 y2 y3 y4 y5, LeO (drawlotref24_Right.j1 k y0 y1 y2 y3 y4 y5) (drawlotref24_Right.j1 (k + 1) y0 y1 y2 y3 y4 y5)) ∧ (∀ y0, LeO (drawlotref24_Right.j2 k y0) (drawlotref24_Right.j2 (k + 1) y0))
 | 0 => ⟨fun _ r h => by simp [drawlotref24_Right.j0] at h, fun _ _ _ _ _ _ r h => by simp [drawlotref24_Right.j1] at h, fun _ r h => by simp [drawlotref24_Right.j2] at h⟩
 | k + 1 => by
  obtain ⟨ih0, ih1, ih2⟩ := drawlotref24_Right.mono_l k
  refine ⟨?_, ?_, ?_⟩
  ·intro y0
   unfold drawlotref24_Right.j0
   repeat' first
   | (with_reducible exact ih0 _)
   | (with_reducible exact ih1 _ _ _ _ _ _)
   | (with_reducible exact ih2 _)
   | (with_reducible exact drawlotref24_Size.mono _ _)
   | (with_reducible exact drawlotref24_fields.mono _ _)
   | (with_reducible exact drawlotref24_has.mono _ _ _)
   | (with_reducible exact LeO.refl _)
   | (with_reducible exact LeO.none _)
   | (with_reducible refine LeO.ite ?_ ?_)
   | (with_reducible refine LeO.bind ?_ (fun _ => ?_))
   | exact ih0 _
   | exact ih1 _ _ _ _ _ _
   | exact ih2 _
   | exact drawlotref24_Size.mono _ _
   | exact drawlotref24_fields.mono _ _
   | exact drawlotref24_has.mono _ _ _
   | exact LeO.none _
   | refine LeO.ite ?_ ?_
   | refine LeO.bind ?_ (fun _ => ?_)
  ·intro y0 y1 y2 y3 y4 y5
   unfold drawlotref24_Right.j1
   repeat' first
   | (with_reducible exact ih0 _)
   | (with_reducible exact ih1 _ _ _ _ _ _)
   | (with_reducible exact ih2 _)
   | (with_reducible exact drawlotref24_Size.mono _ _)
   | (with_reducible exact drawlotref24_fields.mono _ _)
   | (with_reducible exact drawlotref24_has.mono _ _ _)
   | (with_reducible exact LeO.refl _)
   | (with_reducible exact LeO.none _)
   | (with_reducible refine LeO.ite ?_ ?_)
   | (with_reducible refine LeO.bind ?_ (fun _ => ?_))
   | exact ih0 _
   | exact ih1 _ _ _ _ _ _
   | exact ih2 _
   | exact drawlotref24_Size.mono _ _
   | exact drawlotref24_fields.mono _ _
   | exact drawlotref24_has.mono _ _ _
   | exact LeO.none _
   | refine LeO.ite ?_ ?_
   | refine LeO.bind ?_ (fun _ => ?_)
  ·intro y0
   unfold drawlotref24_Right.j2
   repeat' first
   | (with_reducible exact ih0 _)
   | (with_reducible exact ih1 _ _ _ _ _ _)
   | (with_reducible exact ih2 _)
   | (with_reducible exact drawlotref24_Size.mono _ _)
   | (with_reducible exact drawlotref24_fields.mono _ _)
   | (with_reducible exact drawlotref24_has.mono _ _ _)
   | (with_reducible exact LeO.refl _)
   | (with_reducible exact LeO.none _)
   | (with_reducible refine LeO.ite ?_ ?_)
   | (with_reducible refine LeO.bind ?_ (fun _ => ?_))
   | exact ih0 _
   | exact ih1 _ _ _ _ _ _
   | exact ih2 _
   | exact drawlotref24_Size.mono _ _
   | exact drawlotref24_fields.mono _ _
   | exact drawlotref24_has.mono _ _ _
   | exact LeO.none _
   | refine LeO.ite ?_ ?_
   | refine LeO.bind ?_ (fun _ => ?_)
theorem drawlotref24_Right.mono : ∀ a0 a1 a2 a3 a4 k, LeO (drawlotref24_Right.f k a0 a1 a2 a3 a4) (drawlotref24_Right.f (k + 1) a0 a1 a2 a3 a4) := by
 intro a0 a1 a2 a3 a4 k
 obtain ⟨ih0, ih1, ih2⟩ := drawlotref24_Right.mono_l k
 unfold drawlotref24_Right.f
 repeat' first
   | (with_reducible exact ih0 _)
   | (with_reducible exact ih1 _ _ _ _ _ _)
   | (with_reducible exact ih2 _)
   | (with_reducible exact drawlotref24_Size.mono _ _)
   | (with_reducible exact drawlotref24_fields.mono _ _)
   | (with_reducible exact drawlotref24_has.mono _ _ _)
   | (with_reducible exact LeO.refl _)
   | (with_reducible exact LeO.none _)
   | (with_reducible refine LeO.ite ?_ ?_)
   | (with_reducible refine LeO.bind ?_ (fun _ => ?_))
   | exact ih0 _
   | exact ih1 _ _ _ _ _ _
   | exact ih2 _
   | exact drawlotref24_Size.mono _ _
   | exact drawlotref24_fields.mono _ _
   | exact drawlotref24_has.mono _ _ _
   | exact LeO.none _
   | refine LeO.ite ?_ ?_
   | refine LeO.bind ?_ (fun _ => ?_)
set_option maxHeartbeats 8000000 in
set_option maxRecDepth 100000 in
theorem drawlotref24_Right.calls (k : Nat) (a0_0 : Int) (a0_1 : Int) (a0_2 : Int) (a0_3 : List Int) (a0_4 : Int) (r : Bool) (w : World) (h : drawlotref24_Right.f k a0_0 a0_1 a0_2 a0_3 a0_4 = some r) :
  Calls Try.prog 17 #[.agg (#[.int .i64 a0_0, .int .i64 a0_1, .int .u64 a0_2] ++ (Ar.cells .u8 32 a0_3 ++ #[.int .i64 a0_4]))] w fun e w' => e = .returned (.bool r) ∧ Below w.heap.size w w' := by
 have hu39 := Try.underlying39
 have HB := Aside0.mk (Below.refl w.heap.size w)
 have H : ((drawlotref24_fields.f k a0_0).bind fun t253 => (if t253.toList = ([] : List UInt8) then ((drawlotref24_Size.f k a0_4).bind fun bt254 => (if (eqS39 (⟨a0_0, a0_1, a0_2, a0_3, a0_4⟩ : S39) (⟨0, 0, 0, (List.replicate 32 0), a0_4⟩ : S39)) = true then (if a0_4 ≥ 0 then (if a0_4 ≤ 255 then (drawlotref24_Right.j0 k (!bt254.2)) else (drawlotref24_Right.j0 k false)) else (drawlotref24_Right.j0 k false)) else (drawlotref24_Right.j0 k false))) else ((drawlotref24_has.f k t253 119).bind fun t256 => (if t256 = true then ((drawlotref24_has.f k t253 110).bind fun t257 => (if t257 = true then ((drawlotref24_has.f k t253 97).bind fun t258 => (if t258 = true then ((drawlotref24_has.f k t253 104).bind fun t259 => (if t259 = true then (drawlotref24_Right.j1 k false a0_0 a0_1 a0_2 a0_3 a0_4) else (drawlotref24_Right.j1 k (!(Ar.eqb 32 a0_3 [0, 0, 0, 0, 0, 0, 0, 0, 0, 0, 0, 0, 0, 0, 0, 0, 0, 0, 0, 0, 0, 0, 0, 0, 0, 0, 0, 0, 0, 0, 0, 0])) a0_0 a0_1 a0_2 a0_3 a0_4))) else (if a0_2 = 0 then ((drawlotref24_has.f k t253 104).bind fun t260 => (if t260 = true then (drawlotref24_Right.j1 k false a0_0 a0_1 a0_2 a0_3 a0_4) else (drawlotref24_Right.j1 k (!(Ar.eqb 32 a0_3 [0, 0, 0, 0, 0, 0, 0, 0, 0, 0, 0, 0, 0, 0, 0, 0, 0, 0, 0, 0, 0, 0, 0, 0, 0, 0, 0, 0, 0, 0, 0, 0])) a0_0 a0_1 a0_2 a0_3 a0_4))) else (drawlotref24_Right.j1 k true a0_0 a0_1 a0_2 a0_3 a0_4)))) else (if a0_4 = 0 then ((drawlotref24_has.f k t253 97).bind fun t261 => (if t261 = true then ((drawlotref24_has.f k t253 104).bind fun t262 => (if t262 = true then (drawlotref24_Right.j1 k false a0_0 a0_1 a0_2 a0_3 a0_4) else (drawlotref24_Right.j1 k (!(Ar.eqb 32 a0_3 [0, 0, 0, 0, 0, 0, 0, 0, 0, 0, 0, 0, 0, 0, 0, 0, 0, 0, 0, 0, 0, 0, 0, 0, 0, 0, 0, 0, 0, 0, 0, 0])) a0_0 a0_1 a0_2 a0_3 a0_4))) else (if a0_2 = 0 then ((drawlotref24_has.f k t253 104).bind fun t263 => (if t263 = true then (drawlotref24_Right.j1 k false a0_0 a0_1 a0_2 a0_3 a0_4) else (drawlotref24_Right.j1 k (!(Ar.eqb 32 a0_3 [0, 0, 0, 0, 0, 0, 0, 0, 0, 0, 0, 0, 0, 0, 0, 0, 0, 0, 0, 0, 0, 0, 0, 0, 0, 0, 0, 0, 0, 0, 0, 0])) a0_0 a0_1 a0_2 a0_3 a0_4))) else (drawlotref24_Right.j1 k true a0_0 a0_1 a0_2 a0_3 a0_4)))) else (drawlotref24_Right.j1 k true a0_0 a0_1 a0_2 a0_3 a0_4)))) else (if a0_1 = 0 then ((drawlotref24_has.f k t253 110).bind fun t264 => (if t264 = true then ((drawlotref24_has.f k t253 97).bind fun t265 => (if t265 = true then ((drawlotref24_has.f k t253 104).bind fun t266 => (if t266 = true then (drawlotref24_Right.j1 k false a0_0 a0_1 a0_2 a0_3 a0_4) else (drawlotref24_Right.j1 k (!(Ar.eqb 32 a0_3 [0, 0, 0, 0, 0, 0, 0, 0, 0, 0, 0, 0, 0, 0, 0, 0, 0, 0, 0, 0, 0, 0, 0, 0, 0, 0, 0, 0, 0, 0, 0, 0])) a0_0 a0_1 a0_2 a0_3 a0_4))) else (if a0_2 = 0 then ((drawlotref24_has.f k t253 104).bind fun t267 => (if t267 = true then (drawlotref24_Right.j1 k false a0_0 a0_1 a0_2 a0_3 a0_4) else (drawlotref24_Right.j1 k (!(Ar.eqb 32 a0_3 [0, 0, 0, 0, 0, 0, 0, 0, 0, 0, 0, 0, 0, 0, 0, 0, 0, 0, 0, 0, 0, 0, 0, 0, 0, 0, 0, 0, 0, 0, 0, 0])) a0_0 a0_1 a0_2 a0_3 a0_4))) else (drawlotref24_Right.j1 k true a0_0 a0_1 a0_2 a0_3 a0_4)))) else (if a0_4 = 0 then ((drawlotref24_has.f k t253 97).bind fun t268 => (if t268 = true then ((drawlotref24_has.f k t253 104).bind fun t269 => (if t269 = true then (drawlotref24_Right.j1 k false a0_0 a0_1 a0_2 a0_3 a0_4) else (drawlotref24_Right.j1 k (!(Ar.eqb 32 a0_3 [0, 0, 0, 0, 0, 0, 0, 0, 0, 0, 0, 0, 0, 0, 0, 0, 0, 0, 0, 0, 0, 0, 0, 0, 0, 0, 0, 0, 0, 0, 0, 0])) a0_0 a0_1 a0_2 a0_3 a0_4))) else (if a0_2 = 0 then ((drawlotref24_has.f k t253 104).bind fun t270 => (if t270 = true then (drawlotref24_Right.j1 k false a0_0 a0_1 a0_2 a0_3 a0_4) else (drawlotref24_Right.j1 k (!(Ar.eqb 32 a0_3 [0, 0, 0, 0, 0, 0, 0, 0, 0, 0, 0, 0, 0, 0, 0, 0, 0, 0, 0, 0, 0, 0, 0, 0, 0, 0, 0, 0, 0, 0, 0, 0])) a0_0 a0_1 a0_2 a0_3 a0_4))) else (drawlotref24_Right.j1 k true a0_0 a0_1 a0_2 a0_3 a0_4)))) else (drawlotref24_Right.j1 k true a0_0 a0_1 a0_2 a0_3 a0_4)))) else (drawlotref24_Right.j1 k true a0_0 a0_1 a0_2 a0_3 a0_4)))))) = some r := h
 clear h
 replace H := Option.bind_eq_some_iff.mp H
 obtain ⟨t253, A20, H⟩ := H
 replace H : (if t253.toList = ([] : List UInt8) then ((drawlotref24_Size.f k a0_4).bind fun bt254 => (if (eqS39 (⟨a0_0, a0_1, a0_2, a0_3, a0_4⟩ : S39) (⟨0, 0, 0, (List.replicate 32 0), a0_4⟩ : S39)) = true then (if a0_4 ≥ 0 then (if a0_4 ≤ 255 then (drawlotref24_Right.j0 k (!bt254.2)) else (drawlotref24_Right.j0 k false)) else (drawlotref24_Right.j0 k false)) else (drawlotref24_Right.j0 k false))) else ((drawlotref24_has.f k t253 119).bind fun t256 => (if t256 = true then ((drawlotref24_has.f k t253 110).bind fun t257 => (if t257 = true then ((drawlotref24_has.f k t253 97).bind fun t258 => (if t258 = true then ((drawlotref24_has.f k t253 104).bind fun t259 => (if t259 = true then (drawlotref24_Right.j1 k false a0_0 a0_1 a0_2 a0_3 a0_4) else (drawlotref24_Right.j1 k (!(Ar.eqb 32 a0_3 [0, 0, 0, 0, 0, 0, 0, 0, 0, 0, 0, 0, 0, 0, 0, 0, 0, 0, 0, 0, 0, 0, 0, 0, 0, 0, 0, 0, 0, 0, 0, 0])) a0_0 a0_1 a0_2 a0_3 a0_4))) else (if a0_2 = 0 then ((drawlotref24_has.f k t253 104).bind fun t260 => (if t260 = true then (drawlotref24_Right.j1 k false a0_0 a0_1 a0_2 a0_3 a0_4) else (drawlotref24_Right.j1 k (!(Ar.eqb 32 a0_3 [0, 0, 0, 0, 0, 0, 0, 0, 0, 0, 0, 0, 0, 0, 0, 0, 0, 0, 0, 0, 0, 0, 0, 0, 0, 0, 0, 0, 0, 0, 0, 0])) a0_0 a0_1 a0_2 a0_3 a0_4))) else (drawlotref24_Right.j1 k true a0_0 a0_1 a0_2 a0_3 a0_4)))) else (if a0_4 = 0 then ((drawlotref24_has.f k t253 97).bind fun t261 => (if t261 = true then ((drawlotref24_has.f k t253 104).bind fun t262 => (if t262 = true then (drawlotref24_Right.j1 k false a0_0 a0_1 a0_2 a0_3 a0_4) else (drawlotref24_Right.j1 k (!(Ar.eqb 32 a0_3 [0, 0, 0, 0, 0, 0, 0, 0, 0, 0, 0, 0, 0, 0, 0, 0, 0, 0, 0, 0, 0, 0, 0, 0, 0, 0, 0, 0, 0, 0, 0, 0])) a0_0 a0_1 a0_2 a0_3 a0_4))) else (if a0_2 = 0 then ((drawlotref24_has.f k t253 104).bind fun t263 => (if t263 = true then (drawlotref24_Right.j1 k false a0_0 a0_1 a0_2 a0_3 a0_4) else (drawlotref24_Right.j1 k (!(Ar.eqb 32 a0_3 [0, 0, 0, 0, 0, 0, 0, 0, 0, 0, 0, 0, 0, 0, 0, 0, 0, 0, 0, 0, 0, 0, 0, 0, 0, 0, 0, 0, 0, 0, 0, 0])) a0_0 a0_1 a0_2 a0_3 a0_4))) else (drawlotref24_Right.j1 k true a0_0 a0_1 a0_2 a0_3 a0_4)))) else (drawlotref24_Right.j1 k true a0_0 a0_1 a0_2 a0_3 a0_4)))) else (if a0_1 = 0 then ((drawlotref24_has.f k t253 110).bind fun t264 => (if t264 = true then ((drawlotref24_has.f k t253 97).bind fun t265 => (if t265 = true then ((drawlotref24_has.f k t253 104).bind fun t266 => (if t266 = true then (drawlotref24_Right.j1 k false a0_0 a0_1 a0_2 a0_3 a0_4) else (drawlotref24_Right.j1 k (!(Ar.eqb 32 a0_3 [0, 0, 0, 0, 0, 0, 0, 0, 0, 0, 0, 0, 0, 0, 0, 0, 0, 0, 0, 0, 0, 0, 0, 0, 0, 0, 0, 0, 0, 0, 0, 0])) a0_0 a0_1 a0_2 a0_3 a0_4))) else (if a0_2 = 0 then ((drawlotref24_has.f k t253 104).bind fun t267 => (if t267 = true then (drawlotref24_Right.j1 k false a0_0 a0_1 a0_2 a0_3 a0_4) else (drawlotref24_Right.j1 k (!(Ar.eqb 32 a0_3 [0, 0, 0, 0, 0, 0, 0, 0, 0, 0, 0, 0, 0, 0, 0, 0, 0, 0, 0, 0, 0, 0, 0, 0, 0, 0, 0, 0, 0, 0, 0, 0])) a0_0 a0_1 a0_2 a0_3 a0_4))) else (drawlotref24_Right.j1 k true a0_0 a0_1 a0_2 a0_3 a0_4)))) else (if a0_4 = 0 then ((drawlotref24_has.f k t253 97).bind fun t268 => (if t268 = true then ((drawlotref24_has.f k t253 104).bind fun t269 => (if t269 = true then (drawlotref24_Right.j1 k false a0_0 a0_1 a0_2 a0_3 a0_4) else (drawlotref24_Right.j1 k (!(Ar.eqb 32 a0_3 [0, 0, 0, 0, 0, 0, 0, 0, 0, 0, 0, 0, 0, 0, 0, 0, 0, 0, 0, 0, 0, 0, 0, 0, 0, 0, 0, 0, 0, 0, 0, 0])) a0_0 a0_1 a0_2 a0_3 a0_4))) else (if a0_2 = 0 then ((drawlotref24_has.f k t253 104).bind fun t270 => (if t270 = true then (drawlotref24_Right.j1 k false a0_0 a0_1 a0_2 a0_3 a0_4) else (drawlotref24_Right.j1 k (!(Ar.eqb 32 a0_3 [0, 0, 0, 0, 0, 0, 0, 0, 0, 0, 0, 0, 0, 0, 0, 0, 0, 0, 0, 0, 0, 0, 0, 0, 0, 0, 0, 0, 0, 0, 0, 0])) a0_0 a0_1 a0_2 a0_3 a0_4))) else (drawlotref24_Right.j1 k true a0_0 a0_1 a0_2 a0_3 a0_4)))) else (drawlotref24_Right.j1 k true a0_0 a0_1 a0_2 a0_3 a0_4)))) else (drawlotref24_Right.j1 k true a0_0 a0_1 a0_2 a0_3 a0_4))))) = some r := H
 have A2 := Aside0.mk A20
 clear A20
 by_cases c3 : t253.toList = ([] : List UInt8)
 ·rw [if_pos c3] at H
  have c3b0 : (t253.toList == ([] : List UInt8)) = true := beq_iff_eq.mpr c3
  have c3b1 : (t253.toList != ([] : List UInt8)) = false := bne_eq_false_iff_eq.mpr c3
  clear c3
  replace H := Option.bind_eq_some_iff.mp H
  obtain ⟨⟨t254, t255⟩, A40, H⟩ := H
  replace H : (if (eqS39 (⟨a0_0, a0_1, a0_2, a0_3, a0_4⟩ : S39) (⟨0, 0, 0, (List.replicate 32 0), a0_4⟩ : S39)) = true then (if a0_4 ≥ 0 then (if a0_4 ≤ 255 then (drawlotref24_Right.j0 k (!t255)) else (drawlotref24_Right.j0 k false)) else (drawlotref24_Right.j0 k false)) else (drawlotref24_Right.j0 k false)) = some r := H
  have A4 := Aside0.mk A40
  clear A40
  have HC5 := Aside0.mk H
  clear H
  go_enter Try.func17, Try.ntmps17
  try simp only [List.append]
  go_upto_region 4 with (first | ((with_reducible refine gate_dst (N := 1) rfl ?_); (try (refine gate_guard (by rfl) ?_; dsimp only)); refine box_event ?hg (N := 1) ?hd (cs := (#[.int .i64 a0_0, .int .i64 a0_1, .int .u64 a0_2] ++ ((Ar.cells .u8 32 a0_3) ++ #[.int .i64 a0_4]))) (t := 39) ?hr ?_; (case hd => rfl); (case hg => rfl); (case hr => first | exact Ar.gbox_run rfl rfl | exact Ar.galloc_run rfl (by kernel_rfl) | (go_simp; done) | (go_simp; rfl)); intro gb252 hg w6 hbox hb; have n0_ := Aside0.mk (below_step (by repeat (first | (with_reducible first | exact HB.out | apply below_alloc | apply pw_below_drewN | apply below_drew1) | exact HB.out)) hb); have n1_ := Aside0.mk (hbox); have n2_ := Aside0.mk ((by rw [hg]; exact (below_size (by repeat (first | (with_reducible first | exact HB.out | apply below_alloc | apply pw_below_drewN | apply below_drew1) | exact HB.out))) : w.heap.size ≤ gb252)); have n3_ := Aside0.mk ((by rw [hg]; exact (below_size (by repeat (first | (with_reducible first | exact HB.out | apply below_alloc | apply pw_below_drewN | apply below_drew1) | exact HB.out))) : w.heap.size ≤ gb252)); clear HB; have HB := n0_; have BK252 := n1_; have GW252 := n2_; have GE252 := n3_; clear n0_ n1_ n2_ n3_; clear hb hbox hg; have hcz7_0 : w6.cell? ⟨gb252, 0, none⟩ = some (.int .i64 a0_0) := (blk_cell BK252.out 0).trans (by first | (simp [Array.getElem?_append, Ar.cells_size]; done) | (simp [Array.getElem?_append, Array.getElem_push, Ar.cells_size]; done)); have hcz7_1 : w6.cell? ⟨gb252, 1, none⟩ = some (.int .i64 a0_1) := (blk_cell BK252.out 1).trans (by first | (simp [Array.getElem?_append, Ar.cells_size]; done) | (simp [Array.getElem?_append, Array.getElem_push, Ar.cells_size]; done)); have hcz7_2 : w6.cell? ⟨gb252, 2, none⟩ = some (.int .u64 a0_2) := (blk_cell BK252.out 2).trans (by first | (simp [Array.getElem?_append, Ar.cells_size]; done) | (simp [Array.getElem?_append, Array.getElem_push, Ar.cells_size]; done)); have hcz7_4 : w6.cell? ⟨gb252, 35, none⟩ = some (.int .i64 a0_4) := (blk_cell BK252.out 35).trans (by first | (simp [Array.getElem?_append, Ar.cells_size]; done) | (simp [Array.getElem?_append, Array.getElem_push, Ar.cells_size]; done))) | ((with_reducible refine gate_callee (f := 20) rfl ?_); refine goesL_ (some 8) rfl rfl Try.func20 (by kernel_rfl) rfl #[.int .i64 a0_0] rfl (by (try simp only [List.map_toArray, List.map_cons, List.map_nil]); first | done | rfl | (simp only [List.length_drop, List.length_take]; rfl)) ?_; (with_reducible refine (drawlotref24_fields.calls k a0_0 t253 _ A2.out).mono ?_); rintro e w' ⟨rfl, ⟨nd, rfl⟩⟩; refine ⟨_, rfl, ?_⟩) | ((with_reducible refine gate_callee (f := 15) rfl ?_); refine goesL_ (some 14) rfl rfl Try.func15 (by kernel_rfl) rfl #[.int .i64 a0_4] rfl (by (try simp only [List.map_toArray, List.map_cons, List.map_nil]); first | done | rfl | (simp only [List.length_drop, List.length_take]; rfl)) ?_; (with_reducible refine (drawlotref24_Size.calls k a0_4 t254 t255 _ A4.out).mono ?_); rintro e w' ⟨rfl, ⟨nd, rfl⟩⟩; refine ⟨_, rfl, ?_⟩))
  (try simp only [Act.put, List.setIfInBounds_toArray, List.set_cons_zero, List.set_cons_succ])
  go_cut [2] (fun v2 wc => ∃ (kq : Nat) (x2_4 : Bool), v2 = .bool x2_4 ∧ Aside0 (drawlotref24_Right.j0 kq x2_4 = some r) ∧ Aside0 (kq ≤ k) ∧ Aside0 (wc.heap[gb252]? = some (.cells (#[.int .i64 a0_0, .int .i64 a0_1, .int .u64 a0_2] ++ (Ar.cells .u8 32 a0_3 ++ #[.int .i64 a0_4])) 39 (0, 0))) ∧ Aside0 (Below w.heap.size w wc))
  case first =>
   have H := HC5.out
   clear HC5
   by_cases c8 : (eqS39 (⟨a0_0, a0_1, a0_2, a0_3, a0_4⟩ : S39) (⟨0, 0, 0, (List.replicate 32 0), a0_4⟩ : S39)) = true
   ·rw [if_pos c8] at H
    have c8b0 : (eqS39 (⟨a0_0, a0_1, a0_2, a0_3, a0_4⟩ : S39) (⟨0, 0, 0, (List.replicate 32 0), a0_4⟩ : S39)) = true := c8
    clear c8
    (first | rw [c8b0] | (simp only [i64_w, i32_w]; rw [c8b0]) | skip)
    by_cases c9 : a0_4 ≥ 0
    ·rw [if_pos c9] at H
     have c9b0 : decide (0 ≤ a0_4) = true := decide_eq_true c9
     clear c9
     by_cases c10 : a0_4 ≤ 255
     ·rw [if_pos c10] at H
      have c10b0 : decide (a0_4 ≤ 255) = true := decide_eq_true c10
      clear c10
      have H' := Aside0.mk H
      clear H
      have hcz11_0 : w6.cell? ⟨gb252, 0, none⟩ = some (.int .i64 a0_0) := (blk_cell BK252.out 0).trans (by first | (simp [Array.getElem?_append, Ar.cells_size]; done) | (simp [Array.getElem?_append, Array.getElem_push, Ar.cells_size]; done))
      have hcz11_1 : w6.cell? ⟨gb252, 1, none⟩ = some (.int .i64 a0_1) := (blk_cell BK252.out 1).trans (by first | (simp [Array.getElem?_append, Ar.cells_size]; done) | (simp [Array.getElem?_append, Array.getElem_push, Ar.cells_size]; done))
      have hcz11_2 : w6.cell? ⟨gb252, 2, none⟩ = some (.int .u64 a0_2) := (blk_cell BK252.out 2).trans (by first | (simp [Array.getElem?_append, Ar.cells_size]; done) | (simp [Array.getElem?_append, Array.getElem_push, Ar.cells_size]; done))
      have hcz11_4 : w6.cell? ⟨gb252, 35, none⟩ = some (.int .i64 a0_4) := (blk_cell BK252.out 35).trans (by first | (simp [Array.getElem?_append, Ar.cells_size]; done) | (simp [Array.getElem?_append, Array.getElem_push, Ar.cells_size]; done))
      go_wp2_with (first | ((with_reducible refine gate_dst (N := 17) rfl ?_); (try (refine gate_guard (by rfl) ?_; dsimp only)); refine Ar.gload_event rfl (T := 39) rfl Try.underlying39 rfl (D := (#[.int .i64 a0_0, .int .i64 a0_1, .int .u64 a0_2] ++ ((Ar.cells .u8 32 a0_3) ++ #[.int .i64 a0_4]))) (by first | (rw [Ar.cells_size]; kernel_rfl) | (simp only [Array.size_append, Ar.cells_size, List.size_toArray, List.length_cons, List.length_nil]; kernel_rfl)) (A := ⟨gb252, 0, none⟩) rfl (Ar.blk_part (by (with_reducible repeat (first | refine blk_drewN ?_ _ | refine blk_drew ?_ | refine blk_alloc ?_ _)); exact BK252.out) Ar.in_whole) ?_) | ((with_reducible refine gate_dst (N := 20) rfl ?_); (try (refine gate_guard (by rfl) ?_; dsimp only)); refine Ar.gbuild_event rfl (T := 39) rfl (D := (#[.int .i64 0, .int .i64 0, .int .u64 0] ++ ((Ar.cells .u8 32 (List.replicate 32 0)) ++ #[.int .i64 a0_4]))) (by simp only [List.map_toArray, List.map_cons, List.map_nil]; exact fatBuild39_4 _ a0_4) ?_) | ((with_reducible refine gate_dst (N := 21) rfl ?_); (try (refine gate_guard (by rfl) ?_; dsimp only)); refine Ar.geq_event rfl rfl (by kernel_rfl) (b := (eqS39 (⟨a0_0, a0_1, a0_2, a0_3, a0_4⟩ : S39) (⟨0, 0, 0, (List.replicate 32 0), a0_4⟩ : S39))) (fun w_ => fatEq39 w_ a0_0 0 a0_1 0 a0_2 0 a0_3 (List.replicate 32 0) a0_4 a0_4) rfl rfl ?_))
      go_meet
      case rel => exact ⟨_, (!t255), (by first | rfl | (simp; done) | (simp [*]; done)), H', ⟨by first | omega | exact Nat.le_refl _⟩, ⟨by (with_reducible repeat (first | refine blk_drewN ?_ _ | refine blk_drew ?_ | refine blk_alloc ?_ _)); exact BK252.out⟩, ⟨by repeat (first | (with_reducible first | exact HB.out | apply below_alloc | apply pw_below_drewN | apply below_drew1 | refine below_set ?_ GE252.out) | exact HB.out)⟩⟩
     ·rw [if_neg c10] at H
      have c10b0 : decide (a0_4 ≤ 255) = false := decide_eq_false c10
      clear c10
      have H' := Aside0.mk H
      clear H
      have hcz12_0 : w6.cell? ⟨gb252, 0, none⟩ = some (.int .i64 a0_0) := (blk_cell BK252.out 0).trans (by first | (simp [Array.getElem?_append, Ar.cells_size]; done) | (simp [Array.getElem?_append, Array.getElem_push, Ar.cells_size]; done))
      have hcz12_1 : w6.cell? ⟨gb252, 1, none⟩ = some (.int .i64 a0_1) := (blk_cell BK252.out 1).trans (by first | (simp [Array.getElem?_append, Ar.cells_size]; done) | (simp [Array.getElem?_append, Array.getElem_push, Ar.cells_size]; done))
      have hcz12_2 : w6.cell? ⟨gb252, 2, none⟩ = some (.int .u64 a0_2) := (blk_cell BK252.out 2).trans (by first | (simp [Array.getElem?_append, Ar.cells_size]; done) | (simp [Array.getElem?_append, Array.getElem_push, Ar.cells_size]; done))
      have hcz12_4 : w6.cell? ⟨gb252, 35, none⟩ = some (.int .i64 a0_4) := (blk_cell BK252.out 35).trans (by first | (simp [Array.getElem?_append, Ar.cells_size]; done) | (simp [Array.getElem?_append, Array.getElem_push, Ar.cells_size]; done))
      go_wp2_with (first | ((with_reducible refine gate_dst (N := 17) rfl ?_); (try (refine gate_guard (by rfl) ?_; dsimp only)); refine Ar.gload_event rfl (T := 39) rfl Try.underlying39 rfl (D := (#[.int .i64 a0_0, .int .i64 a0_1, .int .u64 a0_2] ++ ((Ar.cells .u8 32 a0_3) ++ #[.int .i64 a0_4]))) (by first | (rw [Ar.cells_size]; kernel_rfl) | (simp only [Array.size_append, Ar.cells_size, List.size_toArray, List.length_cons, List.length_nil]; kernel_rfl)) (A := ⟨gb252, 0, none⟩) rfl (Ar.blk_part (by (with_reducible repeat (first | refine blk_drewN ?_ _ | refine blk_drew ?_ | refine blk_alloc ?_ _)); exact BK252.out) Ar.in_whole) ?_) | ((with_reducible refine gate_dst (N := 20) rfl ?_); (try (refine gate_guard (by rfl) ?_; dsimp only)); refine Ar.gbuild_event rfl (T := 39) rfl (D := (#[.int .i64 0, .int .i64 0, .int .u64 0] ++ ((Ar.cells .u8 32 (List.replicate 32 0)) ++ #[.int .i64 a0_4]))) (by simp only [List.map_toArray, List.map_cons, List.map_nil]; exact fatBuild39_4 _ a0_4) ?_) | ((with_reducible refine gate_dst (N := 21) rfl ?_); (try (refine gate_guard (by rfl) ?_; dsimp only)); refine Ar.geq_event rfl rfl (by kernel_rfl) (b := (eqS39 (⟨a0_0, a0_1, a0_2, a0_3, a0_4⟩ : S39) (⟨0, 0, 0, (List.replicate 32 0), a0_4⟩ : S39))) (fun w_ => fatEq39 w_ a0_0 0 a0_1 0 a0_2 0 a0_3 (List.replicate 32 0) a0_4 a0_4) rfl rfl ?_))
      go_meet
      case rel => exact ⟨_, (false), (by first | rfl | (simp; done) | (simp [*]; done)), H', ⟨by first | omega | exact Nat.le_refl _⟩, ⟨by (with_reducible repeat (first | refine blk_drewN ?_ _ | refine blk_drew ?_ | refine blk_alloc ?_ _)); exact BK252.out⟩, ⟨by repeat (first | (with_reducible first | exact HB.out | apply below_alloc | apply pw_below_drewN | apply below_drew1 | refine below_set ?_ GE252.out) | exact HB.out)⟩⟩
    ·rw [if_neg c9] at H
     have c9b0 : decide (0 ≤ a0_4) = false := decide_eq_false c9
     clear c9
     have H' := Aside0.mk H
     clear H
     have hcz13_0 : w6.cell? ⟨gb252, 0, none⟩ = some (.int .i64 a0_0) := (blk_cell BK252.out 0).trans (by first | (simp [Array.getElem?_append, Ar.cells_size]; done) | (simp [Array.getElem?_append, Array.getElem_push, Ar.cells_size]; done))
     have hcz13_1 : w6.cell? ⟨gb252, 1, none⟩ = some (.int .i64 a0_1) := (blk_cell BK252.out 1).trans (by first | (simp [Array.getElem?_append, Ar.cells_size]; done) | (simp [Array.getElem?_append, Array.getElem_push, Ar.cells_size]; done))
     have hcz13_2 : w6.cell? ⟨gb252, 2, none⟩ = some (.int .u64 a0_2) := (blk_cell BK252.out 2).trans (by first | (simp [Array.getElem?_append, Ar.cells_size]; done) | (simp [Array.getElem?_append, Array.getElem_push, Ar.cells_size]; done))
     have hcz13_4 : w6.cell? ⟨gb252, 35, none⟩ = some (.int .i64 a0_4) := (blk_cell BK252.out 35).trans (by first | (simp [Array.getElem?_append, Ar.cells_size]; done) | (simp [Array.getElem?_append, Array.getElem_push, Ar.cells_size]; done))
     go_wp2_with (first | ((with_reducible refine gate_dst (N := 17) rfl ?_); (try (refine gate_guard (by rfl) ?_; dsimp only)); refine Ar.gload_event rfl (T := 39) rfl Try.underlying39 rfl (D := (#[.int .i64 a0_0, .int .i64 a0_1, .int .u64 a0_2] ++ ((Ar.cells .u8 32 a0_3) ++ #[.int .i64 a0_4]))) (by first | (rw [Ar.cells_size]; kernel_rfl) | (simp only [Array.size_append, Ar.cells_size, List.size_toArray, List.length_cons, List.length_nil]; kernel_rfl)) (A := ⟨gb252, 0, none⟩) rfl (Ar.blk_part (by (with_reducible repeat (first | refine blk_drewN ?_ _ | refine blk_drew ?_ | refine blk_alloc ?_ _)); exact BK252.out) Ar.in_whole) ?_) | ((with_reducible refine gate_dst (N := 20) rfl ?_); (try (refine gate_guard (by rfl) ?_; dsimp only)); refine Ar.gbuild_event rfl (T := 39) rfl (D := (#[.int .i64 0, .int .i64 0, .int .u64 0] ++ ((Ar.cells .u8 32 (List.replicate 32 0)) ++ #[.int .i64 a0_4]))) (by simp only [List.map_toArray, List.map_cons, List.map_nil]; exact fatBuild39_4 _ a0_4) ?_) | ((with_reducible refine gate_dst (N := 21) rfl ?_); (try (refine gate_guard (by rfl) ?_; dsimp only)); refine Ar.geq_event rfl rfl (by kernel_rfl) (b := (eqS39 (⟨a0_0, a0_1, a0_2, a0_3, a0_4⟩ : S39) (⟨0, 0, 0, (List.replicate 32 0), a0_4⟩ : S39))) (fun w_ => fatEq39 w_ a0_0 0 a0_1 0 a0_2 0 a0_3 (List.replicate 32 0) a0_4 a0_4) rfl rfl ?_))
     go_meet
     case rel => exact ⟨_, (false), (by first | rfl | (simp; done) | (simp [*]; done)), H', ⟨by first | omega | exact Nat.le_refl _⟩, ⟨by (with_reducible repeat (first | refine blk_drewN ?_ _ | refine blk_drew ?_ | refine blk_alloc ?_ _)); exact BK252.out⟩, ⟨by repeat (first | (with_reducible first | exact HB.out | apply below_alloc | apply pw_below_drewN | apply below_drew1 | refine below_set ?_ GE252.out) | exact HB.out)⟩⟩
   ·rw [if_neg c8] at H
    have c8b0 : (eqS39 (⟨a0_0, a0_1, a0_2, a0_3, a0_4⟩ : S39) (⟨0, 0, 0, (List.replicate 32 0), a0_4⟩ : S39)) = false := by simpa using c8
    have c8b0r := c8b0
    (try simp only [List.reduceReplicate] at c8b0r)
    clear c8
    (first | rw [c8b0] | (simp only [i64_w, i32_w]; rw [c8b0]) | skip)
    have H' := Aside0.mk H
    clear H
    have hcz14_0 : w6.cell? ⟨gb252, 0, none⟩ = some (.int .i64 a0_0) := (blk_cell BK252.out 0).trans (by first | (simp [Array.getElem?_append, Ar.cells_size]; done) | (simp [Array.getElem?_append, Array.getElem_push, Ar.cells_size]; done))
    have hcz14_1 : w6.cell? ⟨gb252, 1, none⟩ = some (.int .i64 a0_1) := (blk_cell BK252.out 1).trans (by first | (simp [Array.getElem?_append, Ar.cells_size]; done) | (simp [Array.getElem?_append, Array.getElem_push, Ar.cells_size]; done))
    have hcz14_2 : w6.cell? ⟨gb252, 2, none⟩ = some (.int .u64 a0_2) := (blk_cell BK252.out 2).trans (by first | (simp [Array.getElem?_append, Ar.cells_size]; done) | (simp [Array.getElem?_append, Array.getElem_push, Ar.cells_size]; done))
    have hcz14_4 : w6.cell? ⟨gb252, 35, none⟩ = some (.int .i64 a0_4) := (blk_cell BK252.out 35).trans (by first | (simp [Array.getElem?_append, Ar.cells_size]; done) | (simp [Array.getElem?_append, Array.getElem_push, Ar.cells_size]; done))
    go_wp2_with (first | ((with_reducible refine gate_dst (N := 17) rfl ?_); (try (refine gate_guard (by rfl) ?_; dsimp only)); refine Ar.gload_event rfl (T := 39) rfl Try.underlying39 rfl (D := (#[.int .i64 a0_0, .int .i64 a0_1, .int .u64 a0_2] ++ ((Ar.cells .u8 32 a0_3) ++ #[.int .i64 a0_4]))) (by first | (rw [Ar.cells_size]; kernel_rfl) | (simp only [Array.size_append, Ar.cells_size, List.size_toArray, List.length_cons, List.length_nil]; kernel_rfl)) (A := ⟨gb252, 0, none⟩) rfl (Ar.blk_part (by (with_reducible repeat (first | refine blk_drewN ?_ _ | refine blk_drew ?_ | refine blk_alloc ?_ _)); exact BK252.out) Ar.in_whole) ?_) | ((with_reducible refine gate_dst (N := 20) rfl ?_); (try (refine gate_guard (by rfl) ?_; dsimp only)); refine Ar.gbuild_event rfl (T := 39) rfl (D := (#[.int .i64 0, .int .i64 0, .int .u64 0] ++ ((Ar.cells .u8 32 (List.replicate 32 0)) ++ #[.int .i64 a0_4]))) (by simp only [List.map_toArray, List.map_cons, List.map_nil]; exact fatBuild39_4 _ a0_4) ?_) | ((with_reducible refine gate_dst (N := 21) rfl ?_); (try (refine gate_guard (by rfl) ?_; dsimp only)); refine Ar.geq_event rfl rfl (by kernel_rfl) (b := (eqS39 (⟨a0_0, a0_1, a0_2, a0_3, a0_4⟩ : S39) (⟨0, 0, 0, (List.replicate 32 0), a0_4⟩ : S39))) (fun w_ => fatEq39 w_ a0_0 0 a0_1 0 a0_2 0 a0_3 (List.replicate 32 0) a0_4 a0_4) rfl rfl ?_))
    go_meet
    case rel => exact ⟨_, (false), (by first | rfl | (simp; done) | (simp [*]; done)), H', ⟨by first | omega | exact Nat.le_refl _⟩, ⟨by (with_reducible repeat (first | refine blk_drewN ?_ _ | refine blk_drew ?_ | refine blk_alloc ?_ _)); exact BK252.out⟩, ⟨by repeat (first | (with_reducible first | exact HB.out | apply below_alloc | apply pw_below_drewN | apply below_drew1 | refine below_set ?_ GE252.out) | exact HB.out)⟩⟩
  case rest =>
   clear HC5
   try clear c1
   try clear c2
   try clear p2
   try clear c3
   try clear c3b0
   try clear c3b1
   try clear q3
   try clear c8
   try clear c8b0
   try clear c9
   try clear c9b0
   try clear c10
   try clear c10b0
   try clear hcz11_0
   try clear hcz11_1
   try clear hcz11_2
   try clear hcz11_4
   try clear hcz12_0
   try clear hcz12_1
   try clear hcz12_2
   try clear hcz12_4
   try clear hcz13_0
   try clear hcz13_1
   try clear hcz13_2
   try clear hcz13_4
   try clear hcz14_0
   try clear hcz14_1
   try clear hcz14_2
   try clear hcz14_4
   try clear hcz7_0
   try clear hcz7_1
   try clear hcz7_2
   try clear hcz7_4
   obtain ⟨kq, x2_4, rfl, HA, HJ4, BK252, HB⟩ := hcut
   cases kq with
   | zero => exact absurd HA.out (by simp [drawlotref24_Right.j0])
   | succ kj4 =>
    have H := HA.out
    clear HA
    simp only [drawlotref24_Right.j0] at H
    obtain rfl := Option.some.inj H
    go_wp2
    go_ret
    exact ⟨by first | rfl | (simp [errW_none, errW_some] <;> rfl) | (simp [*, errW_none, errW_some] <;> rfl), by repeat (first | (with_reducible first | exact HB.out | apply below_alloc | apply pw_below_drewN | apply below_drew1 | refine below_set ?_ GE252.out) | exact HB.out)⟩
 ·rw [if_neg c3] at H
  have c3b0 : (t253.toList == ([] : List UInt8)) = false := beq_eq_false_iff_ne.mpr c3
  have c3b1 : (t253.toList != ([] : List UInt8)) = true := bne_iff_ne.mpr c3
  have HC15 := Aside0.mk H
  clear H
  go_enter Try.func17, Try.ntmps17
  try simp only [List.append]
  go_upto_region 5 with (first | ((with_reducible refine gate_dst (N := 1) rfl ?_); (try (refine gate_guard (by rfl) ?_; dsimp only)); refine box_event ?hg (N := 1) ?hd (cs := (#[.int .i64 a0_0, .int .i64 a0_1, .int .u64 a0_2] ++ ((Ar.cells .u8 32 a0_3) ++ #[.int .i64 a0_4]))) (t := 39) ?hr ?_; (case hd => rfl); (case hg => rfl); (case hr => first | exact Ar.gbox_run rfl rfl | exact Ar.galloc_run rfl (by kernel_rfl) | (go_simp; done) | (go_simp; rfl)); intro gb252 hg w16 hbox hb; have n0_ := Aside0.mk (below_step (by repeat (first | (with_reducible first | exact HB.out | apply below_alloc | apply pw_below_drewN | apply below_drew1) | exact HB.out)) hb); have n1_ := Aside0.mk (hbox); have n2_ := Aside0.mk ((by rw [hg]; exact (below_size (by repeat (first | (with_reducible first | exact HB.out | apply below_alloc | apply pw_below_drewN | apply below_drew1) | exact HB.out))) : w.heap.size ≤ gb252)); have n3_ := Aside0.mk ((by rw [hg]; exact (below_size (by repeat (first | (with_reducible first | exact HB.out | apply below_alloc | apply pw_below_drewN | apply below_drew1) | exact HB.out))) : w.heap.size ≤ gb252)); clear HB; have HB := n0_; have BK252 := n1_; have GW252 := n2_; have GE252 := n3_; clear n0_ n1_ n2_ n3_; clear hb hbox hg; have hcz17_0 : w16.cell? ⟨gb252, 0, none⟩ = some (.int .i64 a0_0) := (blk_cell BK252.out 0).trans (by first | (simp [Array.getElem?_append, Ar.cells_size]; done) | (simp [Array.getElem?_append, Array.getElem_push, Ar.cells_size]; done)); have hcz17_1 : w16.cell? ⟨gb252, 1, none⟩ = some (.int .i64 a0_1) := (blk_cell BK252.out 1).trans (by first | (simp [Array.getElem?_append, Ar.cells_size]; done) | (simp [Array.getElem?_append, Array.getElem_push, Ar.cells_size]; done)); have hcz17_2 : w16.cell? ⟨gb252, 2, none⟩ = some (.int .u64 a0_2) := (blk_cell BK252.out 2).trans (by first | (simp [Array.getElem?_append, Ar.cells_size]; done) | (simp [Array.getElem?_append, Array.getElem_push, Ar.cells_size]; done)); have hcz17_4 : w16.cell? ⟨gb252, 35, none⟩ = some (.int .i64 a0_4) := (blk_cell BK252.out 35).trans (by first | (simp [Array.getElem?_append, Ar.cells_size]; done) | (simp [Array.getElem?_append, Array.getElem_push, Ar.cells_size]; done))) | ((with_reducible refine gate_callee (f := 20) rfl ?_); refine goesL_ (some 8) rfl rfl Try.func20 (by kernel_rfl) rfl #[.int .i64 a0_0] rfl (by (try simp only [List.map_toArray, List.map_cons, List.map_nil]); first | done | rfl | (simp only [List.length_drop, List.length_take]; rfl)) ?_; (with_reducible refine (drawlotref24_fields.calls k a0_0 t253 _ A2.out).mono ?_); rintro e w' ⟨rfl, ⟨nd, rfl⟩⟩; refine ⟨_, rfl, ?_⟩))
  (try simp only [Act.put, List.setIfInBounds_toArray, List.set_cons_zero, List.set_cons_succ])
  go_cut [74] (fun v74 wc => ∃ (kq : Nat) (x74_14 : Bool), v74 = .bool x74_14 ∧ Aside0 (drawlotref24_Right.j1 kq x74_14 a0_0 a0_1 a0_2 a0_3 a0_4 = some r) ∧ Aside0 (kq ≤ k) ∧ Aside0 (wc.heap[gb252]? = some (.cells (#[.int .i64 a0_0, .int .i64 a0_1, .int .u64 a0_2] ++ (Ar.cells .u8 32 a0_3 ++ #[.int .i64 a0_4])) 39 (0, 0))) ∧ Aside0 (Below w.heap.size w wc))
  case first =>
   have H := HC15.out
   clear HC15
   replace H := Option.bind_eq_some_iff.mp H
   obtain ⟨t256, A180, H⟩ := H
   replace H : (if t256 = true then ((drawlotref24_has.f k t253 110).bind fun t257 => (if t257 = true then ((drawlotref24_has.f k t253 97).bind fun t258 => (if t258 = true then ((drawlotref24_has.f k t253 104).bind fun t259 => (if t259 = true then (drawlotref24_Right.j1 k false a0_0 a0_1 a0_2 a0_3 a0_4) else (drawlotref24_Right.j1 k (!(Ar.eqb 32 a0_3 [0, 0, 0, 0, 0, 0, 0, 0, 0, 0, 0, 0, 0, 0, 0, 0, 0, 0, 0, 0, 0, 0, 0, 0, 0, 0, 0, 0, 0, 0, 0, 0])) a0_0 a0_1 a0_2 a0_3 a0_4))) else (if a0_2 = 0 then ((drawlotref24_has.f k t253 104).bind fun t260 => (if t260 = true then (drawlotref24_Right.j1 k false a0_0 a0_1 a0_2 a0_3 a0_4) else (drawlotref24_Right.j1 k (!(Ar.eqb 32 a0_3 [0, 0, 0, 0, 0, 0, 0, 0, 0, 0, 0, 0, 0, 0, 0, 0, 0, 0, 0, 0, 0, 0, 0, 0, 0, 0, 0, 0, 0, 0, 0, 0])) a0_0 a0_1 a0_2 a0_3 a0_4))) else (drawlotref24_Right.j1 k true a0_0 a0_1 a0_2 a0_3 a0_4)))) else (if a0_4 = 0 then ((drawlotref24_has.f k t253 97).bind fun t261 => (if t261 = true then ((drawlotref24_has.f k t253 104).bind fun t262 => (if t262 = true then (drawlotref24_Right.j1 k false a0_0 a0_1 a0_2 a0_3 a0_4) else (drawlotref24_Right.j1 k (!(Ar.eqb 32 a0_3 [0, 0, 0, 0, 0, 0, 0, 0, 0, 0, 0, 0, 0, 0, 0, 0, 0, 0, 0, 0, 0, 0, 0, 0, 0, 0, 0, 0, 0, 0, 0, 0])) a0_0 a0_1 a0_2 a0_3 a0_4))) else (if a0_2 = 0 then ((drawlotref24_has.f k t253 104).bind fun t263 => (if t263 = true then (drawlotref24_Right.j1 k false a0_0 a0_1 a0_2 a0_3 a0_4) else (drawlotref24_Right.j1 k (!(Ar.eqb 32 a0_3 [0, 0, 0, 0, 0, 0, 0, 0, 0, 0, 0, 0, 0, 0, 0, 0, 0, 0, 0, 0, 0, 0, 0, 0, 0, 0, 0, 0, 0, 0, 0, 0])) a0_0 a0_1 a0_2 a0_3 a0_4))) else (drawlotref24_Right.j1 k true a0_0 a0_1 a0_2 a0_3 a0_4)))) else (drawlotref24_Right.j1 k true a0_0 a0_1 a0_2 a0_3 a0_4)))) else (if a0_1 = 0 then ((drawlotref24_has.f k t253 110).bind fun t264 => (if t264 = true then ((drawlotref24_has.f k t253 97).bind fun t265 => (if t265 = true then ((drawlotref24_has.f k t253 104).bind fun t266 => (if t266 = true then (drawlotref24_Right.j1 k false a0_0 a0_1 a0_2 a0_3 a0_4) else (drawlotref24_Right.j1 k (!(Ar.eqb 32 a0_3 [0, 0, 0, 0, 0, 0, 0, 0, 0, 0, 0, 0, 0, 0, 0, 0, 0, 0, 0, 0, 0, 0, 0, 0, 0, 0, 0, 0, 0, 0, 0, 0])) a0_0 a0_1 a0_2 a0_3 a0_4))) else (if a0_2 = 0 then ((drawlotref24_has.f k t253 104).bind fun t267 => (if t267 = true then (drawlotref24_Right.j1 k false a0_0 a0_1 a0_2 a0_3 a0_4) else (drawlotref24_Right.j1 k (!(Ar.eqb 32 a0_3 [0, 0, 0, 0, 0, 0, 0, 0, 0, 0, 0, 0, 0, 0, 0, 0, 0, 0, 0, 0, 0, 0, 0, 0, 0, 0, 0, 0, 0, 0, 0, 0])) a0_0 a0_1 a0_2 a0_3 a0_4))) else (drawlotref24_Right.j1 k true a0_0 a0_1 a0_2 a0_3 a0_4)))) else (if a0_4 = 0 then ((drawlotref24_has.f k t253 97).bind fun t268 => (if t268 = true then ((drawlotref24_has.f k t253 104).bind fun t269 => (if t269 = true then (drawlotref24_Right.j1 k false a0_0 a0_1 a0_2 a0_3 a0_4) else (drawlotref24_Right.j1 k (!(Ar.eqb 32 a0_3 [0, 0, 0, 0, 0, 0, 0, 0, 0, 0, 0, 0, 0, 0, 0, 0, 0, 0, 0, 0, 0, 0, 0, 0, 0, 0, 0, 0, 0, 0, 0, 0])) a0_0 a0_1 a0_2 a0_3 a0_4))) else (if a0_2 = 0 then ((drawlotref24_has.f k t253 104).bind fun t270 => (if t270 = true then (drawlotref24_Right.j1 k false a0_0 a0_1 a0_2 a0_3 a0_4) else (drawlotref24_Right.j1 k (!(Ar.eqb 32 a0_3 [0, 0, 0, 0, 0, 0, 0, 0, 0, 0, 0, 0, 0, 0, 0, 0, 0, 0, 0, 0, 0, 0, 0, 0, 0, 0, 0, 0, 0, 0, 0, 0])) a0_0 a0_1 a0_2 a0_3 a0_4))) else (drawlotref24_Right.j1 k true a0_0 a0_1 a0_2 a0_3 a0_4)))) else (drawlotref24_Right.j1 k true a0_0 a0_1 a0_2 a0_3 a0_4)))) else (drawlotref24_Right.j1 k true a0_0 a0_1 a0_2 a0_3 a0_4))) = some r := H
   have A18 := Aside0.mk A180
   clear A180
   by_cases c19 : t256 = true
   ·subst c19
    have H1 : ((drawlotref24_has.f k t253 110).bind fun t257 => (if t257 = true then ((drawlotref24_has.f k t253 97).bind fun t258 => (if t258 = true then ((drawlotref24_has.f k t253 104).bind fun t259 => (if t259 = true then (drawlotref24_Right.j1 k false a0_0 a0_1 a0_2 a0_3 a0_4) else (drawlotref24_Right.j1 k (!(Ar.eqb 32 a0_3 [0, 0, 0, 0, 0, 0, 0, 0, 0, 0, 0, 0, 0, 0, 0, 0, 0, 0, 0, 0, 0, 0, 0, 0, 0, 0, 0, 0, 0, 0, 0, 0])) a0_0 a0_1 a0_2 a0_3 a0_4))) else (if a0_2 = 0 then ((drawlotref24_has.f k t253 104).bind fun t260 => (if t260 = true then (drawlotref24_Right.j1 k false a0_0 a0_1 a0_2 a0_3 a0_4) else (drawlotref24_Right.j1 k (!(Ar.eqb 32 a0_3 [0, 0, 0, 0, 0, 0, 0, 0, 0, 0, 0, 0, 0, 0, 0, 0, 0, 0, 0, 0, 0, 0, 0, 0, 0, 0, 0, 0, 0, 0, 0, 0])) a0_0 a0_1 a0_2 a0_3 a0_4))) else (drawlotref24_Right.j1 k true a0_0 a0_1 a0_2 a0_3 a0_4)))) else (if a0_4 = 0 then ((drawlotref24_has.f k t253 97).bind fun t261 => (if t261 = true then ((drawlotref24_has.f k t253 104).bind fun t262 => (if t262 = true then (drawlotref24_Right.j1 k false a0_0 a0_1 a0_2 a0_3 a0_4) else (drawlotref24_Right.j1 k (!(Ar.eqb 32 a0_3 [0, 0, 0, 0, 0, 0, 0, 0, 0, 0, 0, 0, 0, 0, 0, 0, 0, 0, 0, 0, 0, 0, 0, 0, 0, 0, 0, 0, 0, 0, 0, 0])) a0_0 a0_1 a0_2 a0_3 a0_4))) else (if a0_2 = 0 then ((drawlotref24_has.f k t253 104).bind fun t263 => (if t263 = true then (drawlotref24_Right.j1 k false a0_0 a0_1 a0_2 a0_3 a0_4) else (drawlotref24_Right.j1 k (!(Ar.eqb 32 a0_3 [0, 0, 0, 0, 0, 0, 0, 0, 0, 0, 0, 0, 0, 0, 0, 0, 0, 0, 0, 0, 0, 0, 0, 0, 0, 0, 0, 0, 0, 0, 0, 0])) a0_0 a0_1 a0_2 a0_3 a0_4))) else (drawlotref24_Right.j1 k true a0_0 a0_1 a0_2 a0_3 a0_4)))) else (drawlotref24_Right.j1 k true a0_0 a0_1 a0_2 a0_3 a0_4)))) = some r := by rw [if_pos rfl] at H; exact H
    clear H
    have H := H1
    clear H1
    replace H := Option.bind_eq_some_iff.mp H
    obtain ⟨t257, A200, H⟩ := H
    replace H : (if t257 = true then ((drawlotref24_has.f k t253 97).bind fun t258 => (if t258 = true then ((drawlotref24_has.f k t253 104).bind fun t259 => (if t259 = true then (drawlotref24_Right.j1 k false a0_0 a0_1 a0_2 a0_3 a0_4) else (drawlotref24_Right.j1 k (!(Ar.eqb 32 a0_3 [0, 0, 0, 0, 0, 0, 0, 0, 0, 0, 0, 0, 0, 0, 0, 0, 0, 0, 0, 0, 0, 0, 0, 0, 0, 0, 0, 0, 0, 0, 0, 0])) a0_0 a0_1 a0_2 a0_3 a0_4))) else (if a0_2 = 0 then ((drawlotref24_has.f k t253 104).bind fun t260 => (if t260 = true then (drawlotref24_Right.j1 k false a0_0 a0_1 a0_2 a0_3 a0_4) else (drawlotref24_Right.j1 k (!(Ar.eqb 32 a0_3 [0, 0, 0, 0, 0, 0, 0, 0, 0, 0, 0, 0, 0, 0, 0, 0, 0, 0, 0, 0, 0, 0, 0, 0, 0, 0, 0, 0, 0, 0, 0, 0])) a0_0 a0_1 a0_2 a0_3 a0_4))) else (drawlotref24_Right.j1 k true a0_0 a0_1 a0_2 a0_3 a0_4)))) else (if a0_4 = 0 then ((drawlotref24_has.f k t253 97).bind fun t261 => (if t261 = true then ((drawlotref24_has.f k t253 104).bind fun t262 => (if t262 = true then (drawlotref24_Right.j1 k false a0_0 a0_1 a0_2 a0_3 a0_4) else (drawlotref24_Right.j1 k (!(Ar.eqb 32 a0_3 [0, 0, 0, 0, 0, 0, 0, 0, 0, 0, 0, 0, 0, 0, 0, 0, 0, 0, 0, 0, 0, 0, 0, 0, 0, 0, 0, 0, 0, 0, 0, 0])) a0_0 a0_1 a0_2 a0_3 a0_4))) else (if a0_2 = 0 then ((drawlotref24_has.f k t253 104).bind fun t263 => (if t263 = true then (drawlotref24_Right.j1 k false a0_0 a0_1 a0_2 a0_3 a0_4) else (drawlotref24_Right.j1 k (!(Ar.eqb 32 a0_3 [0, 0, 0, 0, 0, 0, 0, 0, 0, 0, 0, 0, 0, 0, 0, 0, 0, 0, 0, 0, 0, 0, 0, 0, 0, 0, 0, 0, 0, 0, 0, 0])) a0_0 a0_1 a0_2 a0_3 a0_4))) else (drawlotref24_Right.j1 k true a0_0 a0_1 a0_2 a0_3 a0_4)))) else (drawlotref24_Right.j1 k true a0_0 a0_1 a0_2 a0_3 a0_4))) = some r := H
    have A20 := Aside0.mk A200
    clear A200
    by_cases c21 : t257 = true
    ·subst c21
     have H1 : ((drawlotref24_has.f k t253 97).bind fun t258 => (if t258 = true then ((drawlotref24_has.f k t253 104).bind fun t259 => (if t259 = true then (drawlotref24_Right.j1 k false a0_0 a0_1 a0_2 a0_3 a0_4) else (drawlotref24_Right.j1 k (!(Ar.eqb 32 a0_3 [0, 0, 0, 0, 0, 0, 0, 0, 0, 0, 0, 0, 0, 0, 0, 0, 0, 0, 0, 0, 0, 0, 0, 0, 0, 0, 0, 0, 0, 0, 0, 0])) a0_0 a0_1 a0_2 a0_3 a0_4))) else (if a0_2 = 0 then ((drawlotref24_has.f k t253 104).bind fun t260 => (if t260 = true then (drawlotref24_Right.j1 k false a0_0 a0_1 a0_2 a0_3 a0_4) else (drawlotref24_Right.j1 k (!(Ar.eqb 32 a0_3 [0, 0, 0, 0, 0, 0, 0, 0, 0, 0, 0, 0, 0, 0, 0, 0, 0, 0, 0, 0, 0, 0, 0, 0, 0, 0, 0, 0, 0, 0, 0, 0])) a0_0 a0_1 a0_2 a0_3 a0_4))) else (drawlotref24_Right.j1 k true a0_0 a0_1 a0_2 a0_3 a0_4)))) = some r := by rw [if_pos rfl] at H; exact H
     clear H
     have H := H1
     clear H1
     replace H := Option.bind_eq_some_iff.mp H
     obtain ⟨t258, A220, H⟩ := H
     replace H : (if t258 = true then ((drawlotref24_has.f k t253 104).bind fun t259 => (if t259 = true then (drawlotref24_Right.j1 k false a0_0 a0_1 a0_2 a0_3 a0_4) else (drawlotref24_Right.j1 k (!(Ar.eqb 32 a0_3 [0, 0, 0, 0, 0, 0, 0, 0, 0, 0, 0, 0, 0, 0, 0, 0, 0, 0, 0, 0, 0, 0, 0, 0, 0, 0, 0, 0, 0, 0, 0, 0])) a0_0 a0_1 a0_2 a0_3 a0_4))) else (if a0_2 = 0 then ((drawlotref24_has.f k t253 104).bind fun t260 => (if t260 = true then (drawlotref24_Right.j1 k false a0_0 a0_1 a0_2 a0_3 a0_4) else (drawlotref24_Right.j1 k (!(Ar.eqb 32 a0_3 [0, 0, 0, 0, 0, 0, 0, 0, 0, 0, 0, 0, 0, 0, 0, 0, 0, 0, 0, 0, 0, 0, 0, 0, 0, 0, 0, 0, 0, 0, 0, 0])) a0_0 a0_1 a0_2 a0_3 a0_4))) else (drawlotref24_Right.j1 k true a0_0 a0_1 a0_2 a0_3 a0_4))) = some r := H
     have A22 := Aside0.mk A220
     clear A220
     by_cases c23 : t258 = true
     ·subst c23
      have H1 : ((drawlotref24_has.f k t253 104).bind fun t259 => (if t259 = true then (drawlotref24_Right.j1 k false a0_0 a0_1 a0_2 a0_3 a0_4) else (drawlotref24_Right.j1 k (!(Ar.eqb 32 a0_3 [0, 0, 0, 0, 0, 0, 0, 0, 0, 0, 0, 0, 0, 0, 0, 0, 0, 0, 0, 0, 0, 0, 0, 0, 0, 0, 0, 0, 0, 0, 0, 0])) a0_0 a0_1 a0_2 a0_3 a0_4))) = some r := by rw [if_pos rfl] at H; exact H
      clear H
      have H := H1
      clear H1
      replace H := Option.bind_eq_some_iff.mp H
      obtain ⟨t259, A240, H⟩ := H
      replace H : (if t259 = true then (drawlotref24_Right.j1 k false a0_0 a0_1 a0_2 a0_3 a0_4) else (drawlotref24_Right.j1 k (!(Ar.eqb 32 a0_3 [0, 0, 0, 0, 0, 0, 0, 0, 0, 0, 0, 0, 0, 0, 0, 0, 0, 0, 0, 0, 0, 0, 0, 0, 0, 0, 0, 0, 0, 0, 0, 0])) a0_0 a0_1 a0_2 a0_3 a0_4)) = some r := H
      have A24 := Aside0.mk A240
      clear A240
      by_cases c25 : t259 = true
      ·subst c25
       have H1 : (drawlotref24_Right.j1 k false a0_0 a0_1 a0_2 a0_3 a0_4) = some r := by rw [if_pos rfl] at H; exact H
       clear H
       have H := H1
       clear H1
       have H' := Aside0.mk H
       clear H
       go_wp2_with (first | ((with_reducible refine gate_callee (f := 27) rfl ?_); refine goesL_ (some 37) rfl rfl Try.func27 (by kernel_rfl) rfl #[.string t253, .int .u8 119] rfl (by (try simp only [List.map_toArray, List.map_cons, List.map_nil]); first | done | rfl | (simp only [List.length_drop, List.length_take]; rfl)) ?_; (with_reducible refine (drawlotref24_has.calls k t253 119 true _ A18.out).mono ?_); rintro e w' ⟨rfl, ⟨nd, rfl⟩⟩; refine ⟨_, rfl, ?_⟩) | (go_at_call 27; (with_reducible refine (drawlotref24_has.calls k t253 110 true _ A20.out).mono ?_); rintro e w' ⟨rfl, ⟨nd, rfl⟩⟩) | (go_at_call 27; (with_reducible refine (drawlotref24_has.calls k t253 97 true _ A22.out).mono ?_); rintro e w' ⟨rfl, ⟨nd, rfl⟩⟩) | (go_at_call 27; (with_reducible refine (drawlotref24_has.calls k t253 104 true _ A24.out).mono ?_); rintro e w' ⟨rfl, ⟨nd, rfl⟩⟩))
       go_meet
       case rel => exact ⟨_, (false), (by first | rfl | (simp; done) | (simp [*]; done)), H', ⟨by first | omega | exact Nat.le_refl _⟩, ⟨by (with_reducible repeat (first | refine blk_drewN ?_ _ | refine blk_drew ?_ | refine blk_alloc ?_ _)); exact BK252.out⟩, ⟨by repeat (first | (with_reducible first | exact HB.out | apply below_alloc | apply pw_below_drewN | apply below_drew1 | refine below_set ?_ GE252.out) | exact HB.out)⟩⟩
      ·replace c25 := Bool.eq_false_iff.mpr c25
       subst c25
       have H1 : (drawlotref24_Right.j1 k (!(Ar.eqb 32 a0_3 [0, 0, 0, 0, 0, 0, 0, 0, 0, 0, 0, 0, 0, 0, 0, 0, 0, 0, 0, 0, 0, 0, 0, 0, 0, 0, 0, 0, 0, 0, 0, 0])) a0_0 a0_1 a0_2 a0_3 a0_4) = some r := by rw [if_neg (show ¬ (false = true) by decide)] at H; exact H
       clear H
       have H := H1
       clear H1
       have H' := Aside0.mk H
       clear H
       go_wp2_with (first | ((with_reducible refine gate_callee (f := 27) rfl ?_); refine goesL_ (some 37) rfl rfl Try.func27 (by kernel_rfl) rfl #[.string t253, .int .u8 119] rfl (by (try simp only [List.map_toArray, List.map_cons, List.map_nil]); first | done | rfl | (simp only [List.length_drop, List.length_take]; rfl)) ?_; (with_reducible refine (drawlotref24_has.calls k t253 119 true _ A18.out).mono ?_); rintro e w' ⟨rfl, ⟨nd, rfl⟩⟩; refine ⟨_, rfl, ?_⟩) | (go_at_call 27; (with_reducible refine (drawlotref24_has.calls k t253 110 true _ A20.out).mono ?_); rintro e w' ⟨rfl, ⟨nd, rfl⟩⟩) | (go_at_call 27; (with_reducible refine (drawlotref24_has.calls k t253 97 true _ A22.out).mono ?_); rintro e w' ⟨rfl, ⟨nd, rfl⟩⟩) | (go_at_call 27; (with_reducible refine (drawlotref24_has.calls k t253 104 false _ A24.out).mono ?_); rintro e w' ⟨rfl, ⟨nd, rfl⟩⟩) | ((with_reducible refine gate_dst (N := 70) rfl ?_); (try (refine gate_guard (by rfl) ?_; dsimp only)); refine Ar.gload_event rfl (T := 37) rfl Try.underlying37 rfl (D := (Ar.cells .u8 32 a0_3)) (by first | (rw [Ar.cells_size]; kernel_rfl) | (simp only [Array.size_append, Ar.cells_size, List.size_toArray, List.length_cons, List.length_nil]; kernel_rfl)) (A := ⟨gb252, 3, none⟩) rfl (Ar.blk_part (by (with_reducible repeat (first | refine blk_drewN ?_ _ | refine blk_drew ?_ | refine blk_alloc ?_ _)); exact BK252.out) (Ar.in_skip (a := 3) (c := 0) (by simp [Ar.cells_size]) Ar.in_first)) ?_) | ((with_reducible refine gate_dst (N := 71) rfl ?_); (try (refine gate_guard (by rfl) ?_; dsimp only)); refine Ar.build_event rfl (D := 71) rfl (T := 37) rfl (k := .u8) (n := 32) (l := [0, 0, 0, 0, 0, 0, 0, 0, 0, 0, 0, 0, 0, 0, 0, 0, 0, 0, 0, 0, 0, 0, 0, 0, 0, 0, 0, 0, 0, 0, 0, 0]) Try.underlying37 (by kernel_rfl) (by kernel_rfl) [] (by rfl) (by rfl) (by rfl) ?_) | ((with_reducible refine gate_dst (N := 72) rfl ?_); (try (refine gate_guard (by rfl) ?_; dsimp only)); refine Ar.eq_event rfl (D := 72) rfl (T := 37) (neq := true) rfl Try.underlying37 (by kernel_rfl) Try.underlying5 (by kernel_rfl) (k := .u8) (n := 32) (l := a0_3) (m := [0, 0, 0, 0, 0, 0, 0, 0, 0, 0, 0, 0, 0, 0, 0, 0, 0, 0, 0, 0, 0, 0, 0, 0, 0, 0, 0, 0, 0, 0, 0, 0]) (by first | rfl | (go_simp; done) | (go_simp; rfl)) (by first | rfl | (go_simp; done) | (go_simp; rfl)) ?_; dsimp only [if_true, if_false, Bool.false_eq_true]))
       go_meet
       case rel => exact ⟨_, (!(Ar.eqb 32 a0_3 [0, 0, 0, 0, 0, 0, 0, 0, 0, 0, 0, 0, 0, 0, 0, 0, 0, 0, 0, 0, 0, 0, 0, 0, 0, 0, 0, 0, 0, 0, 0, 0])), (by first | rfl | (simp; done) | (simp [*]; done)), H', ⟨by first | omega | exact Nat.le_refl _⟩, ⟨by (with_reducible repeat (first | refine blk_drewN ?_ _ | refine blk_drew ?_ | refine blk_alloc ?_ _)); exact BK252.out⟩, ⟨by repeat (first | (with_reducible first | exact HB.out | apply below_alloc | apply pw_below_drewN | apply below_drew1 | refine below_set ?_ GE252.out) | exact HB.out)⟩⟩
     ·replace c23 := Bool.eq_false_iff.mpr c23
      subst c23
      have H1 : (if a0_2 = 0 then ((drawlotref24_has.f k t253 104).bind fun t260 => (if t260 = true then (drawlotref24_Right.j1 k false a0_0 a0_1 a0_2 a0_3 a0_4) else (drawlotref24_Right.j1 k (!(Ar.eqb 32 a0_3 [0, 0, 0, 0, 0, 0, 0, 0, 0, 0, 0, 0, 0, 0, 0, 0, 0, 0, 0, 0, 0, 0, 0, 0, 0, 0, 0, 0, 0, 0, 0, 0])) a0_0 a0_1 a0_2 a0_3 a0_4))) else (drawlotref24_Right.j1 k true a0_0 a0_1 a0_2 a0_3 a0_4)) = some r := by rw [if_neg (show ¬ (false = true) by decide)] at H; exact H
      clear H
      have H := H1
      clear H1
      by_cases c26 : a0_2 = 0
      ·rw [if_pos c26] at H
       have c26b0 : (a0_2 == 0) = true := beq_iff_eq.mpr c26
       have c26b1 : (a0_2 != 0) = false := bne_eq_false_iff_eq.mpr c26
       clear c26
       (first | rw [c26b0] | (simp only [i64_w, i32_w]; rw [c26b0]) | skip)
       replace H := Option.bind_eq_some_iff.mp H
       obtain ⟨t260, A270, H⟩ := H
       replace H : (if t260 = true then (drawlotref24_Right.j1 k false a0_0 a0_1 a0_2 a0_3 a0_4) else (drawlotref24_Right.j1 k (!(Ar.eqb 32 a0_3 [0, 0, 0, 0, 0, 0, 0, 0, 0, 0, 0, 0, 0, 0, 0, 0, 0, 0, 0, 0, 0, 0, 0, 0, 0, 0, 0, 0, 0, 0, 0, 0])) a0_0 a0_1 a0_2 a0_3 a0_4)) = some r := H
       have A27 := Aside0.mk A270
       clear A270
       by_cases c28 : t260 = true
       ·subst c28
        have H1 : (drawlotref24_Right.j1 k false a0_0 a0_1 a0_2 a0_3 a0_4) = some r := by rw [if_pos rfl] at H; exact H
        clear H
        have H := H1
        clear H1
        have H' := Aside0.mk H
        clear H
        go_wp2_with (first | ((with_reducible refine gate_callee (f := 27) rfl ?_); refine goesL_ (some 37) rfl rfl Try.func27 (by kernel_rfl) rfl #[.string t253, .int .u8 119] rfl (by (try simp only [List.map_toArray, List.map_cons, List.map_nil]); first | done | rfl | (simp only [List.length_drop, List.length_take]; rfl)) ?_; (with_reducible refine (drawlotref24_has.calls k t253 119 true _ A18.out).mono ?_); rintro e w' ⟨rfl, ⟨nd, rfl⟩⟩; refine ⟨_, rfl, ?_⟩) | (go_at_call 27; (with_reducible refine (drawlotref24_has.calls k t253 110 true _ A20.out).mono ?_); rintro e w' ⟨rfl, ⟨nd, rfl⟩⟩) | (go_at_call 27; (with_reducible refine (drawlotref24_has.calls k t253 97 false _ A22.out).mono ?_); rintro e w' ⟨rfl, ⟨nd, rfl⟩⟩; have hcz29_0 : w16.cell? ⟨gb252, 0, none⟩ = some (.int .i64 a0_0) := (blk_cell BK252.out 0).trans (by first | (simp [Array.getElem?_append, Ar.cells_size]; done) | (simp [Array.getElem?_append, Array.getElem_push, Ar.cells_size]; done)); have hcz29_1 : w16.cell? ⟨gb252, 1, none⟩ = some (.int .i64 a0_1) := (blk_cell BK252.out 1).trans (by first | (simp [Array.getElem?_append, Ar.cells_size]; done) | (simp [Array.getElem?_append, Array.getElem_push, Ar.cells_size]; done)); have hcz29_2 : w16.cell? ⟨gb252, 2, none⟩ = some (.int .u64 a0_2) := (blk_cell BK252.out 2).trans (by first | (simp [Array.getElem?_append, Ar.cells_size]; done) | (simp [Array.getElem?_append, Array.getElem_push, Ar.cells_size]; done)); have hcz29_4 : w16.cell? ⟨gb252, 35, none⟩ = some (.int .i64 a0_4) := (blk_cell BK252.out 35).trans (by first | (simp [Array.getElem?_append, Ar.cells_size]; done) | (simp [Array.getElem?_append, Array.getElem_push, Ar.cells_size]; done))) | (go_at_call 27; (with_reducible refine (drawlotref24_has.calls k t253 104 true _ A27.out).mono ?_); rintro e w' ⟨rfl, ⟨nd, rfl⟩⟩))
        go_meet
        case rel => exact ⟨_, (false), (by first | rfl | (simp; done) | (simp [*]; done)), H', ⟨by first | omega | exact Nat.le_refl _⟩, ⟨by (with_reducible repeat (first | refine blk_drewN ?_ _ | refine blk_drew ?_ | refine blk_alloc ?_ _)); exact BK252.out⟩, ⟨by repeat (first | (with_reducible first | exact HB.out | apply below_alloc | apply pw_below_drewN | apply below_drew1 | refine below_set ?_ GE252.out) | exact HB.out)⟩⟩
       ·replace c28 := Bool.eq_false_iff.mpr c28
        subst c28
        have H1 : (drawlotref24_Right.j1 k (!(Ar.eqb 32 a0_3 [0, 0, 0, 0, 0, 0, 0, 0, 0, 0, 0, 0, 0, 0, 0, 0, 0, 0, 0, 0, 0, 0, 0, 0, 0, 0, 0, 0, 0, 0, 0, 0])) a0_0 a0_1 a0_2 a0_3 a0_4) = some r := by rw [if_neg (show ¬ (false = true) by decide)] at H; exact H
        clear H
        have H := H1
        clear H1
        have H' := Aside0.mk H
        clear H
        go_wp2_with (first | ((with_reducible refine gate_callee (f := 27) rfl ?_); refine goesL_ (some 37) rfl rfl Try.func27 (by kernel_rfl) rfl #[.string t253, .int .u8 119] rfl (by (try simp only [List.map_toArray, List.map_cons, List.map_nil]); first | done | rfl | (simp only [List.length_drop, List.length_take]; rfl)) ?_; (with_reducible refine (drawlotref24_has.calls k t253 119 true _ A18.out).mono ?_); rintro e w' ⟨rfl, ⟨nd, rfl⟩⟩; refine ⟨_, rfl, ?_⟩) | (go_at_call 27; (with_reducible refine (drawlotref24_has.calls k t253 110 true _ A20.out).mono ?_); rintro e w' ⟨rfl, ⟨nd, rfl⟩⟩) | (go_at_call 27; (with_reducible refine (drawlotref24_has.calls k t253 97 false _ A22.out).mono ?_); rintro e w' ⟨rfl, ⟨nd, rfl⟩⟩; have hcz30_0 : w16.cell? ⟨gb252, 0, none⟩ = some (.int .i64 a0_0) := (blk_cell BK252.out 0).trans (by first | (simp [Array.getElem?_append, Ar.cells_size]; done) | (simp [Array.getElem?_append, Array.getElem_push, Ar.cells_size]; done)); have hcz30_1 : w16.cell? ⟨gb252, 1, none⟩ = some (.int .i64 a0_1) := (blk_cell BK252.out 1).trans (by first | (simp [Array.getElem?_append, Ar.cells_size]; done) | (simp [Array.getElem?_append, Array.getElem_push, Ar.cells_size]; done)); have hcz30_2 : w16.cell? ⟨gb252, 2, none⟩ = some (.int .u64 a0_2) := (blk_cell BK252.out 2).trans (by first | (simp [Array.getElem?_append, Ar.cells_size]; done) | (simp [Array.getElem?_append, Array.getElem_push, Ar.cells_size]; done)); have hcz30_4 : w16.cell? ⟨gb252, 35, none⟩ = some (.int .i64 a0_4) := (blk_cell BK252.out 35).trans (by first | (simp [Array.getElem?_append, Ar.cells_size]; done) | (simp [Array.getElem?_append, Array.getElem_push, Ar.cells_size]; done))) | (go_at_call 27; (with_reducible refine (drawlotref24_has.calls k t253 104 false _ A27.out).mono ?_); rintro e w' ⟨rfl, ⟨nd, rfl⟩⟩) | ((with_reducible refine gate_dst (N := 70) rfl ?_); (try (refine gate_guard (by rfl) ?_; dsimp only)); refine Ar.gload_event rfl (T := 37) rfl Try.underlying37 rfl (D := (Ar.cells .u8 32 a0_3)) (by first | (rw [Ar.cells_size]; kernel_rfl) | (simp only [Array.size_append, Ar.cells_size, List.size_toArray, List.length_cons, List.length_nil]; kernel_rfl)) (A := ⟨gb252, 3, none⟩) rfl (Ar.blk_part (by (with_reducible repeat (first | refine blk_drewN ?_ _ | refine blk_drew ?_ | refine blk_alloc ?_ _)); exact BK252.out) (Ar.in_skip (a := 3) (c := 0) (by simp [Ar.cells_size]) Ar.in_first)) ?_) | ((with_reducible refine gate_dst (N := 71) rfl ?_); (try (refine gate_guard (by rfl) ?_; dsimp only)); refine Ar.build_event rfl (D := 71) rfl (T := 37) rfl (k := .u8) (n := 32) (l := [0, 0, 0, 0, 0, 0, 0, 0, 0, 0, 0, 0, 0, 0, 0, 0, 0, 0, 0, 0, 0, 0, 0, 0, 0, 0, 0, 0, 0, 0, 0, 0]) Try.underlying37 (by kernel_rfl) (by kernel_rfl) [] (by rfl) (by rfl) (by rfl) ?_) | ((with_reducible refine gate_dst (N := 72) rfl ?_); (try (refine gate_guard (by rfl) ?_; dsimp only)); refine Ar.eq_event rfl (D := 72) rfl (T := 37) (neq := true) rfl Try.underlying37 (by kernel_rfl) Try.underlying5 (by kernel_rfl) (k := .u8) (n := 32) (l := a0_3) (m := [0, 0, 0, 0, 0, 0, 0, 0, 0, 0, 0, 0, 0, 0, 0, 0, 0, 0, 0, 0, 0, 0, 0, 0, 0, 0, 0, 0, 0, 0, 0, 0]) (by first | rfl | (go_simp; done) | (go_simp; rfl)) (by first | rfl | (go_simp; done) | (go_simp; rfl)) ?_; dsimp only [if_true, if_false, Bool.false_eq_true]))
        go_meet
        case rel => exact ⟨_, (!(Ar.eqb 32 a0_3 [0, 0, 0, 0, 0, 0, 0, 0, 0, 0, 0, 0, 0, 0, 0, 0, 0, 0, 0, 0, 0, 0, 0, 0, 0, 0, 0, 0, 0, 0, 0, 0])), (by first | rfl | (simp; done) | (simp [*]; done)), H', ⟨by first | omega | exact Nat.le_refl _⟩, ⟨by (with_reducible repeat (first | refine blk_drewN ?_ _ | refine blk_drew ?_ | refine blk_alloc ?_ _)); exact BK252.out⟩, ⟨by repeat (first | (with_reducible first | exact HB.out | apply below_alloc | apply pw_below_drewN | apply below_drew1 | refine below_set ?_ GE252.out) | exact HB.out)⟩⟩
      ·rw [if_neg c26] at H
       have c26b0 : (a0_2 == 0) = false := beq_eq_false_iff_ne.mpr c26
       have c26b1 : (a0_2 != 0) = true := bne_iff_ne.mpr c26
       (first | rw [c26b0] | (simp only [i64_w, i32_w]; rw [c26b0]) | skip)
       have H' := Aside0.mk H
       clear H
       go_wp2_with (first | ((with_reducible refine gate_callee (f := 27) rfl ?_); refine goesL_ (some 37) rfl rfl Try.func27 (by kernel_rfl) rfl #[.string t253, .int .u8 119] rfl (by (try simp only [List.map_toArray, List.map_cons, List.map_nil]); first | done | rfl | (simp only [List.length_drop, List.length_take]; rfl)) ?_; (with_reducible refine (drawlotref24_has.calls k t253 119 true _ A18.out).mono ?_); rintro e w' ⟨rfl, ⟨nd, rfl⟩⟩; refine ⟨_, rfl, ?_⟩) | (go_at_call 27; (with_reducible refine (drawlotref24_has.calls k t253 110 true _ A20.out).mono ?_); rintro e w' ⟨rfl, ⟨nd, rfl⟩⟩) | (go_at_call 27; (with_reducible refine (drawlotref24_has.calls k t253 97 false _ A22.out).mono ?_); rintro e w' ⟨rfl, ⟨nd, rfl⟩⟩; have hcz31_0 : w16.cell? ⟨gb252, 0, none⟩ = some (.int .i64 a0_0) := (blk_cell BK252.out 0).trans (by first | (simp [Array.getElem?_append, Ar.cells_size]; done) | (simp [Array.getElem?_append, Array.getElem_push, Ar.cells_size]; done)); have hcz31_1 : w16.cell? ⟨gb252, 1, none⟩ = some (.int .i64 a0_1) := (blk_cell BK252.out 1).trans (by first | (simp [Array.getElem?_append, Ar.cells_size]; done) | (simp [Array.getElem?_append, Array.getElem_push, Ar.cells_size]; done)); have hcz31_2 : w16.cell? ⟨gb252, 2, none⟩ = some (.int .u64 a0_2) := (blk_cell BK252.out 2).trans (by first | (simp [Array.getElem?_append, Ar.cells_size]; done) | (simp [Array.getElem?_append, Array.getElem_push, Ar.cells_size]; done)); have hcz31_4 : w16.cell? ⟨gb252, 35, none⟩ = some (.int .i64 a0_4) := (blk_cell BK252.out 35).trans (by first | (simp [Array.getElem?_append, Ar.cells_size]; done) | (simp [Array.getElem?_append, Array.getElem_push, Ar.cells_size]; done))))
       go_meet
       case rel => exact ⟨_, (true), (by first | rfl | (simp; done) | (simp [*]; done)), H', ⟨by first | omega | exact Nat.le_refl _⟩, ⟨by (with_reducible repeat (first | refine blk_drewN ?_ _ | refine blk_drew ?_ | refine blk_alloc ?_ _)); exact BK252.out⟩, ⟨by repeat (first | (with_reducible first | exact HB.out | apply below_alloc | apply pw_below_drewN | apply below_drew1 | refine below_set ?_ GE252.out) | exact HB.out)⟩⟩
    ·replace c21 := Bool.eq_false_iff.mpr c21
     subst c21
     have H1 : (if a0_4 = 0 then ((drawlotref24_has.f k t253 97).bind fun t261 => (if t261 = true then ((drawlotref24_has.f k t253 104).bind fun t262 => (if t262 = true then (drawlotref24_Right.j1 k false a0_0 a0_1 a0_2 a0_3 a0_4) else (drawlotref24_Right.j1 k (!(Ar.eqb 32 a0_3 [0, 0, 0, 0, 0, 0, 0, 0, 0, 0, 0, 0, 0, 0, 0, 0, 0, 0, 0, 0, 0, 0, 0, 0, 0, 0, 0, 0, 0, 0, 0, 0])) a0_0 a0_1 a0_2 a0_3 a0_4))) else (if a0_2 = 0 then ((drawlotref24_has.f k t253 104).bind fun t263 => (if t263 = true then (drawlotref24_Right.j1 k false a0_0 a0_1 a0_2 a0_3 a0_4) else (drawlotref24_Right.j1 k (!(Ar.eqb 32 a0_3 [0, 0, 0, 0, 0, 0, 0, 0, 0, 0, 0, 0, 0, 0, 0, 0, 0, 0, 0, 0, 0, 0, 0, 0, 0, 0, 0, 0, 0, 0, 0, 0])) a0_0 a0_1 a0_2 a0_3 a0_4))) else (drawlotref24_Right.j1 k true a0_0 a0_1 a0_2 a0_3 a0_4)))) else (drawlotref24_Right.j1 k true a0_0 a0_1 a0_2 a0_3 a0_4)) = some r := by rw [if_neg (show ¬ (false = true) by decide)] at H; exact H
     clear H
     have H := H1
     clear H1
     by_cases c32 : a0_4 = 0
     ·rw [if_pos c32] at H
      have c32b0 : (a0_4 == 0) = true := beq_iff_eq.mpr c32
      have c32b1 : (a0_4 != 0) = false := bne_eq_false_iff_eq.mpr c32
      clear c32
      replace H := Option.bind_eq_some_iff.mp H
      obtain ⟨t261, A330, H⟩ := H
      replace H : (if t261 = true then ((drawlotref24_has.f k t253 104).bind fun t262 => (if t262 = true then (drawlotref24_Right.j1 k false a0_0 a0_1 a0_2 a0_3 a0_4) else (drawlotref24_Right.j1 k (!(Ar.eqb 32 a0_3 [0, 0, 0, 0, 0, 0, 0, 0, 0, 0, 0, 0, 0, 0, 0, 0, 0, 0, 0, 0, 0, 0, 0, 0, 0, 0, 0, 0, 0, 0, 0, 0])) a0_0 a0_1 a0_2 a0_3 a0_4))) else (if a0_2 = 0 then ((drawlotref24_has.f k t253 104).bind fun t263 => (if t263 = true then (drawlotref24_Right.j1 k false a0_0 a0_1 a0_2 a0_3 a0_4) else (drawlotref24_Right.j1 k (!(Ar.eqb 32 a0_3 [0, 0, 0, 0, 0, 0, 0, 0, 0, 0, 0, 0, 0, 0, 0, 0, 0, 0, 0, 0, 0, 0, 0, 0, 0, 0, 0, 0, 0, 0, 0, 0])) a0_0 a0_1 a0_2 a0_3 a0_4))) else (drawlotref24_Right.j1 k true a0_0 a0_1 a0_2 a0_3 a0_4))) = some r := H
      have A33 := Aside0.mk A330
      clear A330
      by_cases c34 : t261 = true
      ·subst c34
       have H1 : ((drawlotref24_has.f k t253 104).bind fun t262 => (if t262 = true then (drawlotref24_Right.j1 k false a0_0 a0_1 a0_2 a0_3 a0_4) else (drawlotref24_Right.j1 k (!(Ar.eqb 32 a0_3 [0, 0, 0, 0, 0, 0, 0, 0, 0, 0, 0, 0, 0, 0, 0, 0, 0, 0, 0, 0, 0, 0, 0, 0, 0, 0, 0, 0, 0, 0, 0, 0])) a0_0 a0_1 a0_2 a0_3 a0_4))) = some r := by rw [if_pos rfl] at H; exact H
       clear H
       have H := H1
       clear H1
       replace H := Option.bind_eq_some_iff.mp H
       obtain ⟨t262, A350, H⟩ := H
       replace H : (if t262 = true then (drawlotref24_Right.j1 k false a0_0 a0_1 a0_2 a0_3 a0_4) else (drawlotref24_Right.j1 k (!(Ar.eqb 32 a0_3 [0, 0, 0, 0, 0, 0, 0, 0, 0, 0, 0, 0, 0, 0, 0, 0, 0, 0, 0, 0, 0, 0, 0, 0, 0, 0, 0, 0, 0, 0, 0, 0])) a0_0 a0_1 a0_2 a0_3 a0_4)) = some r := H
       have A35 := Aside0.mk A350
       clear A350
       by_cases c36 : t262 = true
       ·subst c36
        have H1 : (drawlotref24_Right.j1 k false a0_0 a0_1 a0_2 a0_3 a0_4) = some r := by rw [if_pos rfl] at H; exact H
        clear H
        have H := H1
        clear H1
        have H' := Aside0.mk H
        clear H
        go_wp2_with (first | ((with_reducible refine gate_callee (f := 27) rfl ?_); refine goesL_ (some 37) rfl rfl Try.func27 (by kernel_rfl) rfl #[.string t253, .int .u8 119] rfl (by (try simp only [List.map_toArray, List.map_cons, List.map_nil]); first | done | rfl | (simp only [List.length_drop, List.length_take]; rfl)) ?_; (with_reducible refine (drawlotref24_has.calls k t253 119 true _ A18.out).mono ?_); rintro e w' ⟨rfl, ⟨nd, rfl⟩⟩; refine ⟨_, rfl, ?_⟩) | (go_at_call 27; (with_reducible refine (drawlotref24_has.calls k t253 110 false _ A20.out).mono ?_); rintro e w' ⟨rfl, ⟨nd, rfl⟩⟩; have hcz37_0 : w16.cell? ⟨gb252, 0, none⟩ = some (.int .i64 a0_0) := (blk_cell BK252.out 0).trans (by first | (simp [Array.getElem?_append, Ar.cells_size]; done) | (simp [Array.getElem?_append, Array.getElem_push, Ar.cells_size]; done)); have hcz37_1 : w16.cell? ⟨gb252, 1, none⟩ = some (.int .i64 a0_1) := (blk_cell BK252.out 1).trans (by first | (simp [Array.getElem?_append, Ar.cells_size]; done) | (simp [Array.getElem?_append, Array.getElem_push, Ar.cells_size]; done)); have hcz37_2 : w16.cell? ⟨gb252, 2, none⟩ = some (.int .u64 a0_2) := (blk_cell BK252.out 2).trans (by first | (simp [Array.getElem?_append, Ar.cells_size]; done) | (simp [Array.getElem?_append, Array.getElem_push, Ar.cells_size]; done)); have hcz37_4 : w16.cell? ⟨gb252, 35, none⟩ = some (.int .i64 a0_4) := (blk_cell BK252.out 35).trans (by first | (simp [Array.getElem?_append, Ar.cells_size]; done) | (simp [Array.getElem?_append, Array.getElem_push, Ar.cells_size]; done))) | (go_at_call 27; (with_reducible refine (drawlotref24_has.calls k t253 97 true _ A33.out).mono ?_); rintro e w' ⟨rfl, ⟨nd, rfl⟩⟩) | (go_at_call 27; (with_reducible refine (drawlotref24_has.calls k t253 104 true _ A35.out).mono ?_); rintro e w' ⟨rfl, ⟨nd, rfl⟩⟩))
        go_meet
        case rel => exact ⟨_, (false), (by first | rfl | (simp; done) | (simp [*]; done)), H', ⟨by first | omega | exact Nat.le_refl _⟩, ⟨by (with_reducible repeat (first | refine blk_drewN ?_ _ | refine blk_drew ?_ | refine blk_alloc ?_ _)); exact BK252.out⟩, ⟨by repeat (first | (with_reducible first | exact HB.out | apply below_alloc | apply pw_below_drewN | apply below_drew1 | refine below_set ?_ GE252.out) | exact HB.out)⟩⟩
       ·replace c36 := Bool.eq_false_iff.mpr c36
        subst c36
        have H1 : (drawlotref24_Right.j1 k (!(Ar.eqb 32 a0_3 [0, 0, 0, 0, 0, 0, 0, 0, 0, 0, 0, 0, 0, 0, 0, 0, 0, 0, 0, 0, 0, 0, 0, 0, 0, 0, 0, 0, 0, 0, 0, 0])) a0_0 a0_1 a0_2 a0_3 a0_4) = some r := by rw [if_neg (show ¬ (false = true) by decide)] at H; exact H
        clear H
        have H := H1
        clear H1
        have H' := Aside0.mk H
        clear H
        go_wp2_with (first | ((with_reducible refine gate_callee (f := 27) rfl ?_); refine goesL_ (some 37) rfl rfl Try.func27 (by kernel_rfl) rfl #[.string t253, .int .u8 119] rfl (by (try simp only [List.map_toArray, List.map_cons, List.map_nil]); first | done | rfl | (simp only [List.length_drop, List.length_take]; rfl)) ?_; (with_reducible refine (drawlotref24_has.calls k t253 119 true _ A18.out).mono ?_); rintro e w' ⟨rfl, ⟨nd, rfl⟩⟩; refine ⟨_, rfl, ?_⟩) | (go_at_call 27; (with_reducible refine (drawlotref24_has.calls k t253 110 false _ A20.out).mono ?_); rintro e w' ⟨rfl, ⟨nd, rfl⟩⟩; have hcz38_0 : w16.cell? ⟨gb252, 0, none⟩ = some (.int .i64 a0_0) := (blk_cell BK252.out 0).trans (by first | (simp [Array.getElem?_append, Ar.cells_size]; done) | (simp [Array.getElem?_append, Array.getElem_push, Ar.cells_size]; done)); have hcz38_1 : w16.cell? ⟨gb252, 1, none⟩ = some (.int .i64 a0_1) := (blk_cell BK252.out 1).trans (by first | (simp [Array.getElem?_append, Ar.cells_size]; done) | (simp [Array.getElem?_append, Array.getElem_push, Ar.cells_size]; done)); have hcz38_2 : w16.cell? ⟨gb252, 2, none⟩ = some (.int .u64 a0_2) := (blk_cell BK252.out 2).trans (by first | (simp [Array.getElem?_append, Ar.cells_size]; done) | (simp [Array.getElem?_append, Array.getElem_push, Ar.cells_size]; done)); have hcz38_4 : w16.cell? ⟨gb252, 35, none⟩ = some (.int .i64 a0_4) := (blk_cell BK252.out 35).trans (by first | (simp [Array.getElem?_append, Ar.cells_size]; done) | (simp [Array.getElem?_append, Array.getElem_push, Ar.cells_size]; done))) | (go_at_call 27; (with_reducible refine (drawlotref24_has.calls k t253 97 true _ A33.out).mono ?_); rintro e w' ⟨rfl, ⟨nd, rfl⟩⟩) | (go_at_call 27; (with_reducible refine (drawlotref24_has.calls k t253 104 false _ A35.out).mono ?_); rintro e w' ⟨rfl, ⟨nd, rfl⟩⟩) | ((with_reducible refine gate_dst (N := 70) rfl ?_); (try (refine gate_guard (by rfl) ?_; dsimp only)); refine Ar.gload_event rfl (T := 37) rfl Try.underlying37 rfl (D := (Ar.cells .u8 32 a0_3)) (by first | (rw [Ar.cells_size]; kernel_rfl) | (simp only [Array.size_append, Ar.cells_size, List.size_toArray, List.length_cons, List.length_nil]; kernel_rfl)) (A := ⟨gb252, 3, none⟩) rfl (Ar.blk_part (by (with_reducible repeat (first | refine blk_drewN ?_ _ | refine blk_drew ?_ | refine blk_alloc ?_ _)); exact BK252.out) (Ar.in_skip (a := 3) (c := 0) (by simp [Ar.cells_size]) Ar.in_first)) ?_) | ((with_reducible refine gate_dst (N := 71) rfl ?_); (try (refine gate_guard (by rfl) ?_; dsimp only)); refine Ar.build_event rfl (D := 71) rfl (T := 37) rfl (k := .u8) (n := 32) (l := [0, 0, 0, 0, 0, 0, 0, 0, 0, 0, 0, 0, 0, 0, 0, 0, 0, 0, 0, 0, 0, 0, 0, 0, 0, 0, 0, 0, 0, 0, 0, 0]) Try.underlying37 (by kernel_rfl) (by kernel_rfl) [] (by rfl) (by rfl) (by rfl) ?_) | ((with_reducible refine gate_dst (N := 72) rfl ?_); (try (refine gate_guard (by rfl) ?_; dsimp only)); refine Ar.eq_event rfl (D := 72) rfl (T := 37) (neq := true) rfl Try.underlying37 (by kernel_rfl) Try.underlying5 (by kernel_rfl) (k := .u8) (n := 32) (l := a0_3) (m := [0, 0, 0, 0, 0, 0, 0, 0, 0, 0, 0, 0, 0, 0, 0, 0, 0, 0, 0, 0, 0, 0, 0, 0, 0, 0, 0, 0, 0, 0, 0, 0]) (by first | rfl | (go_simp; done) | (go_simp; rfl)) (by first | rfl | (go_simp; done) | (go_simp; rfl)) ?_; dsimp only [if_true, if_false, Bool.false_eq_true]))
        go_meet
        case rel => exact ⟨_, (!(Ar.eqb 32 a0_3 [0, 0, 0, 0, 0, 0, 0, 0, 0, 0, 0, 0, 0, 0, 0, 0, 0, 0, 0, 0, 0, 0, 0, 0, 0, 0, 0, 0, 0, 0, 0, 0])), (by first | rfl | (simp; done) | (simp [*]; done)), H', ⟨by first | omega | exact Nat.le_refl _⟩, ⟨by (with_reducible repeat (first | refine blk_drewN ?_ _ | refine blk_drew ?_ | refine blk_alloc ?_ _)); exact BK252.out⟩, ⟨by repeat (first | (with_reducible first | exact HB.out | apply below_alloc | apply pw_below_drewN | apply below_drew1 | refine below_set ?_ GE252.out) | exact HB.out)⟩⟩
      ·replace c34 := Bool.eq_false_iff.mpr c34
       subst c34
       have H1 : (if a0_2 = 0 then ((drawlotref24_has.f k t253 104).bind fun t263 => (if t263 = true then (drawlotref24_Right.j1 k false a0_0 a0_1 a0_2 a0_3 a0_4) else (drawlotref24_Right.j1 k (!(Ar.eqb 32 a0_3 [0, 0, 0, 0, 0, 0, 0, 0, 0, 0, 0, 0, 0, 0, 0, 0, 0, 0, 0, 0, 0, 0, 0, 0, 0, 0, 0, 0, 0, 0, 0, 0])) a0_0 a0_1 a0_2 a0_3 a0_4))) else (drawlotref24_Right.j1 k true a0_0 a0_1 a0_2 a0_3 a0_4)) = some r := by rw [if_neg (show ¬ (false = true) by decide)] at H; exact H
       clear H
       have H := H1
       clear H1
       by_cases c39 : a0_2 = 0
       ·rw [if_pos c39] at H
        have c39b0 : (a0_2 == 0) = true := beq_iff_eq.mpr c39
        have c39b1 : (a0_2 != 0) = false := bne_eq_false_iff_eq.mpr c39
        clear c39
        replace H := Option.bind_eq_some_iff.mp H
        obtain ⟨t263, A400, H⟩ := H
        replace H : (if t263 = true then (drawlotref24_Right.j1 k false a0_0 a0_1 a0_2 a0_3 a0_4) else (drawlotref24_Right.j1 k (!(Ar.eqb 32 a0_3 [0, 0, 0, 0, 0, 0, 0, 0, 0, 0, 0, 0, 0, 0, 0, 0, 0, 0, 0, 0, 0, 0, 0, 0, 0, 0, 0, 0, 0, 0, 0, 0])) a0_0 a0_1 a0_2 a0_3 a0_4)) = some r := H
        have A40 := Aside0.mk A400
        clear A400
        by_cases c41 : t263 = true
        ·subst c41
         have H1 : (drawlotref24_Right.j1 k false a0_0 a0_1 a0_2 a0_3 a0_4) = some r := by rw [if_pos rfl] at H; exact H
         clear H
         have H := H1
         clear H1
         have H' := Aside0.mk H
         clear H
         go_wp2_with (first | ((with_reducible refine gate_callee (f := 27) rfl ?_); refine goesL_ (some 37) rfl rfl Try.func27 (by kernel_rfl) rfl #[.string t253, .int .u8 119] rfl (by (try simp only [List.map_toArray, List.map_cons, List.map_nil]); first | done | rfl | (simp only [List.length_drop, List.length_take]; rfl)) ?_; (with_reducible refine (drawlotref24_has.calls k t253 119 true _ A18.out).mono ?_); rintro e w' ⟨rfl, ⟨nd, rfl⟩⟩; refine ⟨_, rfl, ?_⟩) | (go_at_call 27; (with_reducible refine (drawlotref24_has.calls k t253 110 false _ A20.out).mono ?_); rintro e w' ⟨rfl, ⟨nd, rfl⟩⟩; have hcz42_0 : w16.cell? ⟨gb252, 0, none⟩ = some (.int .i64 a0_0) := (blk_cell BK252.out 0).trans (by first | (simp [Array.getElem?_append, Ar.cells_size]; done) | (simp [Array.getElem?_append, Array.getElem_push, Ar.cells_size]; done)); have hcz42_1 : w16.cell? ⟨gb252, 1, none⟩ = some (.int .i64 a0_1) := (blk_cell BK252.out 1).trans (by first | (simp [Array.getElem?_append, Ar.cells_size]; done) | (simp [Array.getElem?_append, Array.getElem_push, Ar.cells_size]; done)); have hcz42_2 : w16.cell? ⟨gb252, 2, none⟩ = some (.int .u64 a0_2) := (blk_cell BK252.out 2).trans (by first | (simp [Array.getElem?_append, Ar.cells_size]; done) | (simp [Array.getElem?_append, Array.getElem_push, Ar.cells_size]; done)); have hcz42_4 : w16.cell? ⟨gb252, 35, none⟩ = some (.int .i64 a0_4) := (blk_cell BK252.out 35).trans (by first | (simp [Array.getElem?_append, Ar.cells_size]; done) | (simp [Array.getElem?_append, Array.getElem_push, Ar.cells_size]; done))) | (go_at_call 27; (with_reducible refine (drawlotref24_has.calls k t253 97 false _ A33.out).mono ?_); rintro e w' ⟨rfl, ⟨nd, rfl⟩⟩) | (go_at_call 27; (with_reducible refine (drawlotref24_has.calls k t253 104 true _ A40.out).mono ?_); rintro e w' ⟨rfl, ⟨nd, rfl⟩⟩))
         go_meet
         case rel => exact ⟨_, (false), (by first | rfl | (simp; done) | (simp [*]; done)), H', ⟨by first | omega | exact Nat.le_refl _⟩, ⟨by (with_reducible repeat (first | refine blk_drewN ?_ _ | refine blk_drew ?_ | refine blk_alloc ?_ _)); exact BK252.out⟩, ⟨by repeat (first | (with_reducible first | exact HB.out | apply below_alloc | apply pw_below_drewN | apply below_drew1 | refine below_set ?_ GE252.out) | exact HB.out)⟩⟩
        ·replace c41 := Bool.eq_false_iff.mpr c41
         subst c41
         have H1 : (drawlotref24_Right.j1 k (!(Ar.eqb 32 a0_3 [0, 0, 0, 0, 0, 0, 0, 0, 0, 0, 0, 0, 0, 0, 0, 0, 0, 0, 0, 0, 0, 0, 0, 0, 0, 0, 0, 0, 0, 0, 0, 0])) a0_0 a0_1 a0_2 a0_3 a0_4) = some r := by rw [if_neg (show ¬ (false = true) by decide)] at H; exact H
         clear H
         have H := H1
         clear H1
         have H' := Aside0.mk H
         clear H
         go_wp2_with (first | ((with_reducible refine gate_callee (f := 27) rfl ?_); refine goesL_ (some 37) rfl rfl Try.func27 (by kernel_rfl) rfl #[.string t253, .int .u8 119] rfl (by (try simp only [List.map_toArray, List.map_cons, List.map_nil]); first | done | rfl | (simp only [List.length_drop, List.length_take]; rfl)) ?_; (with_reducible refine (drawlotref24_has.calls k t253 119 true _ A18.out).mono ?_); rintro e w' ⟨rfl, ⟨nd, rfl⟩⟩; refine ⟨_, rfl, ?_⟩) | (go_at_call 27; (with_reducible refine (drawlotref24_has.calls k t253 110 false _ A20.out).mono ?_); rintro e w' ⟨rfl, ⟨nd, rfl⟩⟩; have hcz43_0 : w16.cell? ⟨gb252, 0, none⟩ = some (.int .i64 a0_0) := (blk_cell BK252.out 0).trans (by first | (simp [Array.getElem?_append, Ar.cells_size]; done) | (simp [Array.getElem?_append, Array.getElem_push, Ar.cells_size]; done)); have hcz43_1 : w16.cell? ⟨gb252, 1, none⟩ = some (.int .i64 a0_1) := (blk_cell BK252.out 1).trans (by first | (simp [Array.getElem?_append, Ar.cells_size]; done) | (simp [Array.getElem?_append, Array.getElem_push, Ar.cells_size]; done)); have hcz43_2 : w16.cell? ⟨gb252, 2, none⟩ = some (.int .u64 a0_2) := (blk_cell BK252.out 2).trans (by first | (simp [Array.getElem?_append, Ar.cells_size]; done) | (simp [Array.getElem?_append, Array.getElem_push, Ar.cells_size]; done)); have hcz43_4 : w16.cell? ⟨gb252, 35, none⟩ = some (.int .i64 a0_4) := (blk_cell BK252.out 35).trans (by first | (simp [Array.getElem?_append, Ar.cells_size]; done) | (simp [Array.getElem?_append, Array.getElem_push, Ar.cells_size]; done))) | (go_at_call 27; (with_reducible refine (drawlotref24_has.calls k t253 97 false _ A33.out).mono ?_); rintro e w' ⟨rfl, ⟨nd, rfl⟩⟩) | (go_at_call 27; (with_reducible refine (drawlotref24_has.calls k t253 104 false _ A40.out).mono ?_); rintro e w' ⟨rfl, ⟨nd, rfl⟩⟩) | ((with_reducible refine gate_dst (N := 70) rfl ?_); (try (refine gate_guard (by rfl) ?_; dsimp only)); refine Ar.gload_event rfl (T := 37) rfl Try.underlying37 rfl (D := (Ar.cells .u8 32 a0_3)) (by first | (rw [Ar.cells_size]; kernel_rfl) | (simp only [Array.size_append, Ar.cells_size, List.size_toArray, List.length_cons, List.length_nil]; kernel_rfl)) (A := ⟨gb252, 3, none⟩) rfl (Ar.blk_part (by (with_reducible repeat (first | refine blk_drewN ?_ _ | refine blk_drew ?_ | refine blk_alloc ?_ _)); exact BK252.out) (Ar.in_skip (a := 3) (c := 0) (by simp [Ar.cells_size]) Ar.in_first)) ?_) | ((with_reducible refine gate_dst (N := 71) rfl ?_); (try (refine gate_guard (by rfl) ?_; dsimp only)); refine Ar.build_event rfl (D := 71) rfl (T := 37) rfl (k := .u8) (n := 32) (l := [0, 0, 0, 0, 0, 0, 0, 0, 0, 0, 0, 0, 0, 0, 0, 0, 0, 0, 0, 0, 0, 0, 0, 0, 0, 0, 0, 0, 0, 0, 0, 0]) Try.underlying37 (by kernel_rfl) (by kernel_rfl) [] (by rfl) (by rfl) (by rfl) ?_) | ((with_reducible refine gate_dst (N := 72) rfl ?_); (try (refine gate_guard (by rfl) ?_; dsimp only)); refine Ar.eq_event rfl (D := 72) rfl (T := 37) (neq := true) rfl Try.underlying37 (by kernel_rfl) Try.underlying5 (by kernel_rfl) (k := .u8) (n := 32) (l := a0_3) (m := [0, 0, 0, 0, 0, 0, 0, 0, 0, 0, 0, 0, 0, 0, 0, 0, 0, 0, 0, 0, 0, 0, 0, 0, 0, 0, 0, 0, 0, 0, 0, 0]) (by first | rfl | (go_simp; done) | (go_simp; rfl)) (by first | rfl | (go_simp; done) | (go_simp; rfl)) ?_; dsimp only [if_true, if_false, Bool.false_eq_true]))
         go_meet
         case rel => exact ⟨_, (!(Ar.eqb 32 a0_3 [0, 0, 0, 0, 0, 0, 0, 0, 0, 0, 0, 0, 0, 0, 0, 0, 0, 0, 0, 0, 0, 0, 0, 0, 0, 0, 0, 0, 0, 0, 0, 0])), (by first | rfl | (simp; done) | (simp [*]; done)), H', ⟨by first | omega | exact Nat.le_refl _⟩, ⟨by (with_reducible repeat (first | refine blk_drewN ?_ _ | refine blk_drew ?_ | refine blk_alloc ?_ _)); exact BK252.out⟩, ⟨by repeat (first | (with_reducible first | exact HB.out | apply below_alloc | apply pw_below_drewN | apply below_drew1 | refine below_set ?_ GE252.out) | exact HB.out)⟩⟩
       ·rw [if_neg c39] at H
        have c39b0 : (a0_2 == 0) = false := beq_eq_false_iff_ne.mpr c39
        have c39b1 : (a0_2 != 0) = true := bne_iff_ne.mpr c39
        have H' := Aside0.mk H
        clear H
        go_wp2_with (first | ((with_reducible refine gate_callee (f := 27) rfl ?_); refine goesL_ (some 37) rfl rfl Try.func27 (by kernel_rfl) rfl #[.string t253, .int .u8 119] rfl (by (try simp only [List.map_toArray, List.map_cons, List.map_nil]); first | done | rfl | (simp only [List.length_drop, List.length_take]; rfl)) ?_; (with_reducible refine (drawlotref24_has.calls k t253 119 true _ A18.out).mono ?_); rintro e w' ⟨rfl, ⟨nd, rfl⟩⟩; refine ⟨_, rfl, ?_⟩) | (go_at_call 27; (with_reducible refine (drawlotref24_has.calls k t253 110 false _ A20.out).mono ?_); rintro e w' ⟨rfl, ⟨nd, rfl⟩⟩; have hcz44_0 : w16.cell? ⟨gb252, 0, none⟩ = some (.int .i64 a0_0) := (blk_cell BK252.out 0).trans (by first | (simp [Array.getElem?_append, Ar.cells_size]; done) | (simp [Array.getElem?_append, Array.getElem_push, Ar.cells_size]; done)); have hcz44_1 : w16.cell? ⟨gb252, 1, none⟩ = some (.int .i64 a0_1) := (blk_cell BK252.out 1).trans (by first | (simp [Array.getElem?_append, Ar.cells_size]; done) | (simp [Array.getElem?_append, Array.getElem_push, Ar.cells_size]; done)); have hcz44_2 : w16.cell? ⟨gb252, 2, none⟩ = some (.int .u64 a0_2) := (blk_cell BK252.out 2).trans (by first | (simp [Array.getElem?_append, Ar.cells_size]; done) | (simp [Array.getElem?_append, Array.getElem_push, Ar.cells_size]; done)); have hcz44_4 : w16.cell? ⟨gb252, 35, none⟩ = some (.int .i64 a0_4) := (blk_cell BK252.out 35).trans (by first | (simp [Array.getElem?_append, Ar.cells_size]; done) | (simp [Array.getElem?_append, Array.getElem_push, Ar.cells_size]; done))) | (go_at_call 27; (with_reducible refine (drawlotref24_has.calls k t253 97 false _ A33.out).mono ?_); rintro e w' ⟨rfl, ⟨nd, rfl⟩⟩))
        go_meet
        case rel => exact ⟨_, (true), (by first | rfl | (simp; done) | (simp [*]; done)), H', ⟨by first | omega | exact Nat.le_refl _⟩, ⟨by (with_reducible repeat (first | refine blk_drewN ?_ _ | refine blk_drew ?_ | refine blk_alloc ?_ _)); exact BK252.out⟩, ⟨by repeat (first | (with_reducible first | exact HB.out | apply below_alloc | apply pw_below_drewN | apply below_drew1 | refine below_set ?_ GE252.out) | exact HB.out)⟩⟩
     ·rw [if_neg c32] at H
      have c32b0 : (a0_4 == 0) = false := beq_eq_false_iff_ne.mpr c32
      have c32b1 : (a0_4 != 0) = true := bne_iff_ne.mpr c32
      have H' := Aside0.mk H
      clear H
      go_wp2_with (first | ((with_reducible refine gate_callee (f := 27) rfl ?_); refine goesL_ (some 37) rfl rfl Try.func27 (by kernel_rfl) rfl #[.string t253, .int .u8 119] rfl (by (try simp only [List.map_toArray, List.map_cons, List.map_nil]); first | done | rfl | (simp only [List.length_drop, List.length_take]; rfl)) ?_; (with_reducible refine (drawlotref24_has.calls k t253 119 true _ A18.out).mono ?_); rintro e w' ⟨rfl, ⟨nd, rfl⟩⟩; refine ⟨_, rfl, ?_⟩) | (go_at_call 27; (with_reducible refine (drawlotref24_has.calls k t253 110 false _ A20.out).mono ?_); rintro e w' ⟨rfl, ⟨nd, rfl⟩⟩; have hcz45_0 : w16.cell? ⟨gb252, 0, none⟩ = some (.int .i64 a0_0) := (blk_cell BK252.out 0).trans (by first | (simp [Array.getElem?_append, Ar.cells_size]; done) | (simp [Array.getElem?_append, Array.getElem_push, Ar.cells_size]; done)); have hcz45_1 : w16.cell? ⟨gb252, 1, none⟩ = some (.int .i64 a0_1) := (blk_cell BK252.out 1).trans (by first | (simp [Array.getElem?_append, Ar.cells_size]; done) | (simp [Array.getElem?_append, Array.getElem_push, Ar.cells_size]; done)); have hcz45_2 : w16.cell? ⟨gb252, 2, none⟩ = some (.int .u64 a0_2) := (blk_cell BK252.out 2).trans (by first | (simp [Array.getElem?_append, Ar.cells_size]; done) | (simp [Array.getElem?_append, Array.getElem_push, Ar.cells_size]; done)); have hcz45_4 : w16.cell? ⟨gb252, 35, none⟩ = some (.int .i64 a0_4) := (blk_cell BK252.out 35).trans (by first | (simp [Array.getElem?_append, Ar.cells_size]; done) | (simp [Array.getElem?_append, Array.getElem_push, Ar.cells_size]; done))))
      go_meet
      case rel => exact ⟨_, (true), (by first | rfl | (simp; done) | (simp [*]; done)), H', ⟨by first | omega | exact Nat.le_refl _⟩, ⟨by (with_reducible repeat (first | refine blk_drewN ?_ _ | refine blk_drew ?_ | refine blk_alloc ?_ _)); exact BK252.out⟩, ⟨by repeat (first | (with_reducible first | exact HB.out | apply below_alloc | apply pw_below_drewN | apply below_drew1 | refine below_set ?_ GE252.out) | exact HB.out)⟩⟩
   ·replace c19 := Bool.eq_false_iff.mpr c19
    subst c19
    have H1 : (if a0_1 = 0 then ((drawlotref24_has.f k t253 110).bind fun t264 => (if t264 = true then ((drawlotref24_has.f k t253 97).bind fun t265 => (if t265 = true then ((drawlotref24_has.f k t253 104).bind fun t266 => (if t266 = true then (drawlotref24_Right.j1 k false a0_0 a0_1 a0_2 a0_3 a0_4) else (drawlotref24_Right.j1 k (!(Ar.eqb 32 a0_3 [0, 0, 0, 0, 0, 0, 0, 0, 0, 0, 0, 0, 0, 0, 0, 0, 0, 0, 0, 0, 0, 0, 0, 0, 0, 0, 0, 0, 0, 0, 0, 0])) a0_0 a0_1 a0_2 a0_3 a0_4))) else (if a0_2 = 0 then ((drawlotref24_has.f k t253 104).bind fun t267 => (if t267 = true then (drawlotref24_Right.j1 k false a0_0 a0_1 a0_2 a0_3 a0_4) else (drawlotref24_Right.j1 k (!(Ar.eqb 32 a0_3 [0, 0, 0, 0, 0, 0, 0, 0, 0, 0, 0, 0, 0, 0, 0, 0, 0, 0, 0, 0, 0, 0, 0, 0, 0, 0, 0, 0, 0, 0, 0, 0])) a0_0 a0_1 a0_2 a0_3 a0_4))) else (drawlotref24_Right.j1 k true a0_0 a0_1 a0_2 a0_3 a0_4)))) else (if a0_4 = 0 then ((drawlotref24_has.f k t253 97).bind fun t268 => (if t268 = true then ((drawlotref24_has.f k t253 104).bind fun t269 => (if t269 = true then (drawlotref24_Right.j1 k false a0_0 a0_1 a0_2 a0_3 a0_4) else (drawlotref24_Right.j1 k (!(Ar.eqb 32 a0_3 [0, 0, 0, 0, 0, 0, 0, 0, 0, 0, 0, 0, 0, 0, 0, 0, 0, 0, 0, 0, 0, 0, 0, 0, 0, 0, 0, 0, 0, 0, 0, 0])) a0_0 a0_1 a0_2 a0_3 a0_4))) else (if a0_2 = 0 then ((drawlotref24_has.f k t253 104).bind fun t270 => (if t270 = true then (drawlotref24_Right.j1 k false a0_0 a0_1 a0_2 a0_3 a0_4) else (drawlotref24_Right.j1 k (!(Ar.eqb 32 a0_3 [0, 0, 0, 0, 0, 0, 0, 0, 0, 0, 0, 0, 0, 0, 0, 0, 0, 0, 0, 0, 0, 0, 0, 0, 0, 0, 0, 0, 0, 0, 0, 0])) a0_0 a0_1 a0_2 a0_3 a0_4))) else (drawlotref24_Right.j1 k true a0_0 a0_1 a0_2 a0_3 a0_4)))) else (drawlotref24_Right.j1 k true a0_0 a0_1 a0_2 a0_3 a0_4)))) else (drawlotref24_Right.j1 k true a0_0 a0_1 a0_2 a0_3 a0_4)) = some r := by rw [if_neg (show ¬ (false = true) by decide)] at H; exact H
    clear H
    have H := H1
    clear H1
    by_cases c46 : a0_1 = 0
    ·rw [if_pos c46] at H
     have c46b0 : (a0_1 == 0) = true := beq_iff_eq.mpr c46
     have c46b1 : (a0_1 != 0) = false := bne_eq_false_iff_eq.mpr c46
     clear c46
     replace H := Option.bind_eq_some_iff.mp H
     obtain ⟨t264, A470, H⟩ := H
     replace H : (if t264 = true then ((drawlotref24_has.f k t253 97).bind fun t265 => (if t265 = true then ((drawlotref24_has.f k t253 104).bind fun t266 => (if t266 = true then (drawlotref24_Right.j1 k false a0_0 a0_1 a0_2 a0_3 a0_4) else (drawlotref24_Right.j1 k (!(Ar.eqb 32 a0_3 [0, 0, 0, 0, 0, 0, 0, 0, 0, 0, 0, 0, 0, 0, 0, 0, 0, 0, 0, 0, 0, 0, 0, 0, 0, 0, 0, 0, 0, 0, 0, 0])) a0_0 a0_1 a0_2 a0_3 a0_4))) else (if a0_2 = 0 then ((drawlotref24_has.f k t253 104).bind fun t267 => (if t267 = true then (drawlotref24_Right.j1 k false a0_0 a0_1 a0_2 a0_3 a0_4) else (drawlotref24_Right.j1 k (!(Ar.eqb 32 a0_3 [0, 0, 0, 0, 0, 0, 0, 0, 0, 0, 0, 0, 0, 0, 0, 0, 0, 0, 0, 0, 0, 0, 0, 0, 0, 0, 0, 0, 0, 0, 0, 0])) a0_0 a0_1 a0_2 a0_3 a0_4))) else (drawlotref24_Right.j1 k true a0_0 a0_1 a0_2 a0_3 a0_4)))) else (if a0_4 = 0 then ((drawlotref24_has.f k t253 97).bind fun t268 => (if t268 = true then ((drawlotref24_has.f k t253 104).bind fun t269 => (if t269 = true then (drawlotref24_Right.j1 k false a0_0 a0_1 a0_2 a0_3 a0_4) else (drawlotref24_Right.j1 k (!(Ar.eqb 32 a0_3 [0, 0, 0, 0, 0, 0, 0, 0, 0, 0, 0, 0, 0, 0, 0, 0, 0, 0, 0, 0, 0, 0, 0, 0, 0, 0, 0, 0, 0, 0, 0, 0])) a0_0 a0_1 a0_2 a0_3 a0_4))) else (if a0_2 = 0 then ((drawlotref24_has.f k t253 104).bind fun t270 => (if t270 = true then (drawlotref24_Right.j1 k false a0_0 a0_1 a0_2 a0_3 a0_4) else (drawlotref24_Right.j1 k (!(Ar.eqb 32 a0_3 [0, 0, 0, 0, 0, 0, 0, 0, 0, 0, 0, 0, 0, 0, 0, 0, 0, 0, 0, 0, 0, 0, 0, 0, 0, 0, 0, 0, 0, 0, 0, 0])) a0_0 a0_1 a0_2 a0_3 a0_4))) else (drawlotref24_Right.j1 k true a0_0 a0_1 a0_2 a0_3 a0_4)))) else (drawlotref24_Right.j1 k true a0_0 a0_1 a0_2 a0_3 a0_4))) = some r := H
     have A47 := Aside0.mk A470
     clear A470
     by_cases c48 : t264 = true
     ·subst c48
      have H1 : ((drawlotref24_has.f k t253 97).bind fun t265 => (if t265 = true then ((drawlotref24_has.f k t253 104).bind fun t266 => (if t266 = true then (drawlotref24_Right.j1 k false a0_0 a0_1 a0_2 a0_3 a0_4) else (drawlotref24_Right.j1 k (!(Ar.eqb 32 a0_3 [0, 0, 0, 0, 0, 0, 0, 0, 0, 0, 0, 0, 0, 0, 0, 0, 0, 0, 0, 0, 0, 0, 0, 0, 0, 0, 0, 0, 0, 0, 0, 0])) a0_0 a0_1 a0_2 a0_3 a0_4))) else (if a0_2 = 0 then ((drawlotref24_has.f k t253 104).bind fun t267 => (if t267 = true then (drawlotref24_Right.j1 k false a0_0 a0_1 a0_2 a0_3 a0_4) else (drawlotref24_Right.j1 k (!(Ar.eqb 32 a0_3 [0, 0, 0, 0, 0, 0, 0, 0, 0, 0, 0, 0, 0, 0, 0, 0, 0, 0, 0, 0, 0, 0, 0, 0, 0, 0, 0, 0, 0, 0, 0, 0])) a0_0 a0_1 a0_2 a0_3 a0_4))) else (drawlotref24_Right.j1 k true a0_0 a0_1 a0_2 a0_3 a0_4)))) = some r := by rw [if_pos rfl] at H; exact H
      clear H
      have H := H1
      clear H1
      replace H := Option.bind_eq_some_iff.mp H
      obtain ⟨t265, A490, H⟩ := H
      replace H : (if t265 = true then ((drawlotref24_has.f k t253 104).bind fun t266 => (if t266 = true then (drawlotref24_Right.j1 k false a0_0 a0_1 a0_2 a0_3 a0_4) else (drawlotref24_Right.j1 k (!(Ar.eqb 32 a0_3 [0, 0, 0, 0, 0, 0, 0, 0, 0, 0, 0, 0, 0, 0, 0, 0, 0, 0, 0, 0, 0, 0, 0, 0, 0, 0, 0, 0, 0, 0, 0, 0])) a0_0 a0_1 a0_2 a0_3 a0_4))) else (if a0_2 = 0 then ((drawlotref24_has.f k t253 104).bind fun t267 => (if t267 = true then (drawlotref24_Right.j1 k false a0_0 a0_1 a0_2 a0_3 a0_4) else (drawlotref24_Right.j1 k (!(Ar.eqb 32 a0_3 [0, 0, 0, 0, 0, 0, 0, 0, 0, 0, 0, 0, 0, 0, 0, 0, 0, 0, 0, 0, 0, 0, 0, 0, 0, 0, 0, 0, 0, 0, 0, 0])) a0_0 a0_1 a0_2 a0_3 a0_4))) else (drawlotref24_Right.j1 k true a0_0 a0_1 a0_2 a0_3 a0_4))) = some r := H
      have A49 := Aside0.mk A490
      clear A490
      by_cases c50 : t265 = true
      ·subst c50
       have H1 : ((drawlotref24_has.f k t253 104).bind fun t266 => (if t266 = true then (drawlotref24_Right.j1 k false a0_0 a0_1 a0_2 a0_3 a0_4) else (drawlotref24_Right.j1 k (!(Ar.eqb 32 a0_3 [0, 0, 0, 0, 0, 0, 0, 0, 0, 0, 0, 0, 0, 0, 0, 0, 0, 0, 0, 0, 0, 0, 0, 0, 0, 0, 0, 0, 0, 0, 0, 0])) a0_0 a0_1 a0_2 a0_3 a0_4))) = some r := by rw [if_pos rfl] at H; exact H
       clear H
       have H := H1
       clear H1
       replace H := Option.bind_eq_some_iff.mp H
       obtain ⟨t266, A510, H⟩ := H
       replace H : (if t266 = true then (drawlotref24_Right.j1 k false a0_0 a0_1 a0_2 a0_3 a0_4) else (drawlotref24_Right.j1 k (!(Ar.eqb 32 a0_3 [0, 0, 0, 0, 0, 0, 0, 0, 0, 0, 0, 0, 0, 0, 0, 0, 0, 0, 0, 0, 0, 0, 0, 0, 0, 0, 0, 0, 0, 0, 0, 0])) a0_0 a0_1 a0_2 a0_3 a0_4)) = some r := H
       have A51 := Aside0.mk A510
       clear A510
       by_cases c52 : t266 = true
       ·subst c52
        have H1 : (drawlotref24_Right.j1 k false a0_0 a0_1 a0_2 a0_3 a0_4) = some r := by rw [if_pos rfl] at H; exact H
        clear H
        have H := H1
        clear H1
        have H' := Aside0.mk H
        clear H
        go_wp2_with (first | ((with_reducible refine gate_callee (f := 27) rfl ?_); refine goesL_ (some 37) rfl rfl Try.func27 (by kernel_rfl) rfl #[.string t253, .int .u8 119] rfl (by (try simp only [List.map_toArray, List.map_cons, List.map_nil]); first | done | rfl | (simp only [List.length_drop, List.length_take]; rfl)) ?_; (with_reducible refine (drawlotref24_has.calls k t253 119 false _ A18.out).mono ?_); rintro e w' ⟨rfl, ⟨nd, rfl⟩⟩; refine ⟨_, rfl, ?_⟩; have hcz53_0 : w16.cell? ⟨gb252, 0, none⟩ = some (.int .i64 a0_0) := (blk_cell BK252.out 0).trans (by first | (simp [Array.getElem?_append, Ar.cells_size]; done) | (simp [Array.getElem?_append, Array.getElem_push, Ar.cells_size]; done)); have hcz53_1 : w16.cell? ⟨gb252, 1, none⟩ = some (.int .i64 a0_1) := (blk_cell BK252.out 1).trans (by first | (simp [Array.getElem?_append, Ar.cells_size]; done) | (simp [Array.getElem?_append, Array.getElem_push, Ar.cells_size]; done)); have hcz53_2 : w16.cell? ⟨gb252, 2, none⟩ = some (.int .u64 a0_2) := (blk_cell BK252.out 2).trans (by first | (simp [Array.getElem?_append, Ar.cells_size]; done) | (simp [Array.getElem?_append, Array.getElem_push, Ar.cells_size]; done)); have hcz53_4 : w16.cell? ⟨gb252, 35, none⟩ = some (.int .i64 a0_4) := (blk_cell BK252.out 35).trans (by first | (simp [Array.getElem?_append, Ar.cells_size]; done) | (simp [Array.getElem?_append, Array.getElem_push, Ar.cells_size]; done))) | (go_at_call 27; (with_reducible refine (drawlotref24_has.calls k t253 110 true _ A47.out).mono ?_); rintro e w' ⟨rfl, ⟨nd, rfl⟩⟩) | (go_at_call 27; (with_reducible refine (drawlotref24_has.calls k t253 97 true _ A49.out).mono ?_); rintro e w' ⟨rfl, ⟨nd, rfl⟩⟩) | (go_at_call 27; (with_reducible refine (drawlotref24_has.calls k t253 104 true _ A51.out).mono ?_); rintro e w' ⟨rfl, ⟨nd, rfl⟩⟩))
        go_meet
        case rel => exact ⟨_, (false), (by first | rfl | (simp; done) | (simp [*]; done)), H', ⟨by first | omega | exact Nat.le_refl _⟩, ⟨by (with_reducible repeat (first | refine blk_drewN ?_ _ | refine blk_drew ?_ | refine blk_alloc ?_ _)); exact BK252.out⟩, ⟨by repeat (first | (with_reducible first | exact HB.out | apply below_alloc | apply pw_below_drewN | apply below_drew1 | refine below_set ?_ GE252.out) | exact HB.out)⟩⟩
       ·replace c52 := Bool.eq_false_iff.mpr c52
        subst c52
        have H1 : (drawlotref24_Right.j1 k (!(Ar.eqb 32 a0_3 [0, 0, 0, 0, 0, 0, 0, 0, 0, 0, 0, 0, 0, 0, 0, 0, 0, 0, 0, 0, 0, 0, 0, 0, 0, 0, 0, 0, 0, 0, 0, 0])) a0_0 a0_1 a0_2 a0_3 a0_4) = some r := by rw [if_neg (show ¬ (false = true) by decide)] at H; exact H
        clear H
        have H := H1
        clear H1
        have H' := Aside0.mk H
        clear H
        go_wp2_with (first | ((with_reducible refine gate_callee (f := 27) rfl ?_); refine goesL_ (some 37) rfl rfl Try.func27 (by kernel_rfl) rfl #[.string t253, .int .u8 119] rfl (by (try simp only [List.map_toArray, List.map_cons, List.map_nil]); first | done | rfl | (simp only [List.length_drop, List.length_take]; rfl)) ?_; (with_reducible refine (drawlotref24_has.calls k t253 119 false _ A18.out).mono ?_); rintro e w' ⟨rfl, ⟨nd, rfl⟩⟩; refine ⟨_, rfl, ?_⟩; have hcz54_0 : w16.cell? ⟨gb252, 0, none⟩ = some (.int .i64 a0_0) := (blk_cell BK252.out 0).trans (by first | (simp [Array.getElem?_append, Ar.cells_size]; done) | (simp [Array.getElem?_append, Array.getElem_push, Ar.cells_size]; done)); have hcz54_1 : w16.cell? ⟨gb252, 1, none⟩ = some (.int .i64 a0_1) := (blk_cell BK252.out 1).trans (by first | (simp [Array.getElem?_append, Ar.cells_size]; done) | (simp [Array.getElem?_append, Array.getElem_push, Ar.cells_size]; done)); have hcz54_2 : w16.cell? ⟨gb252, 2, none⟩ = some (.int .u64 a0_2) := (blk_cell BK252.out 2).trans (by first | (simp [Array.getElem?_append, Ar.cells_size]; done) | (simp [Array.getElem?_append, Array.getElem_push, Ar.cells_size]; done)); have hcz54_4 : w16.cell? ⟨gb252, 35, none⟩ = some (.int .i64 a0_4) := (blk_cell BK252.out 35).trans (by first | (simp [Array.getElem?_append, Ar.cells_size]; done) | (simp [Array.getElem?_append, Array.getElem_push, Ar.cells_size]; done))) | (go_at_call 27; (with_reducible refine (drawlotref24_has.calls k t253 110 true _ A47.out).mono ?_); rintro e w' ⟨rfl, ⟨nd, rfl⟩⟩) | (go_at_call 27; (with_reducible refine (drawlotref24_has.calls k t253 97 true _ A49.out).mono ?_); rintro e w' ⟨rfl, ⟨nd, rfl⟩⟩) | (go_at_call 27; (with_reducible refine (drawlotref24_has.calls k t253 104 false _ A51.out).mono ?_); rintro e w' ⟨rfl, ⟨nd, rfl⟩⟩) | ((with_reducible refine gate_dst (N := 70) rfl ?_); (try (refine gate_guard (by rfl) ?_; dsimp only)); refine Ar.gload_event rfl (T := 37) rfl Try.underlying37 rfl (D := (Ar.cells .u8 32 a0_3)) (by first | (rw [Ar.cells_size]; kernel_rfl) | (simp only [Array.size_append, Ar.cells_size, List.size_toArray, List.length_cons, List.length_nil]; kernel_rfl)) (A := ⟨gb252, 3, none⟩) rfl (Ar.blk_part (by (with_reducible repeat (first | refine blk_drewN ?_ _ | refine blk_drew ?_ | refine blk_alloc ?_ _)); exact BK252.out) (Ar.in_skip (a := 3) (c := 0) (by simp [Ar.cells_size]) Ar.in_first)) ?_) | ((with_reducible refine gate_dst (N := 71) rfl ?_); (try (refine gate_guard (by rfl) ?_; dsimp only)); refine Ar.build_event rfl (D := 71) rfl (T := 37) rfl (k := .u8) (n := 32) (l := [0, 0, 0, 0, 0, 0, 0, 0, 0, 0, 0, 0, 0, 0, 0, 0, 0, 0, 0, 0, 0, 0, 0, 0, 0, 0, 0, 0, 0, 0, 0, 0]) Try.underlying37 (by kernel_rfl) (by kernel_rfl) [] (by rfl) (by rfl) (by rfl) ?_) | ((with_reducible refine gate_dst (N := 72) rfl ?_); (try (refine gate_guard (by rfl) ?_; dsimp only)); refine Ar.eq_event rfl (D := 72) rfl (T := 37) (neq := true) rfl Try.underlying37 (by kernel_rfl) Try.underlying5 (by kernel_rfl) (k := .u8) (n := 32) (l := a0_3) (m := [0, 0, 0, 0, 0, 0, 0, 0, 0, 0, 0, 0, 0, 0, 0, 0, 0, 0, 0, 0, 0, 0, 0, 0, 0, 0, 0, 0, 0, 0, 0, 0]) (by first | rfl | (go_simp; done) | (go_simp; rfl)) (by first | rfl | (go_simp; done) | (go_simp; rfl)) ?_; dsimp only [if_true, if_false, Bool.false_eq_true]))
        go_meet
        case rel => exact ⟨_, (!(Ar.eqb 32 a0_3 [0, 0, 0, 0, 0, 0, 0, 0, 0, 0, 0, 0, 0, 0, 0, 0, 0, 0, 0, 0, 0, 0, 0, 0, 0, 0, 0, 0, 0, 0, 0, 0])), (by first | rfl | (simp; done) | (simp [*]; done)), H', ⟨by first | omega | exact Nat.le_refl _⟩, ⟨by (with_reducible repeat (first | refine blk_drewN ?_ _ | refine blk_drew ?_ | refine blk_alloc ?_ _)); exact BK252.out⟩, ⟨by repeat (first | (with_reducible first | exact HB.out | apply below_alloc | apply pw_below_drewN | apply below_drew1 | refine below_set ?_ GE252.out) | exact HB.out)⟩⟩
      ·replace c50 := Bool.eq_false_iff.mpr c50
       subst c50
       have H1 : (if a0_2 = 0 then ((drawlotref24_has.f k t253 104).bind fun t267 => (if t267 = true then (drawlotref24_Right.j1 k false a0_0 a0_1 a0_2 a0_3 a0_4) else (drawlotref24_Right.j1 k (!(Ar.eqb 32 a0_3 [0, 0, 0, 0, 0, 0, 0, 0, 0, 0, 0, 0, 0, 0, 0, 0, 0, 0, 0, 0, 0, 0, 0, 0, 0, 0, 0, 0, 0, 0, 0, 0])) a0_0 a0_1 a0_2 a0_3 a0_4))) else (drawlotref24_Right.j1 k true a0_0 a0_1 a0_2 a0_3 a0_4)) = some r := by rw [if_neg (show ¬ (false = true) by decide)] at H; exact H
       clear H
       have H := H1
       clear H1
       by_cases c55 : a0_2 = 0
       ·rw [if_pos c55] at H
        have c55b0 : (a0_2 == 0) = true := beq_iff_eq.mpr c55
        have c55b1 : (a0_2 != 0) = false := bne_eq_false_iff_eq.mpr c55
        clear c55
        replace H := Option.bind_eq_some_iff.mp H
        obtain ⟨t267, A560, H⟩ := H
        replace H : (if t267 = true then (drawlotref24_Right.j1 k false a0_0 a0_1 a0_2 a0_3 a0_4) else (drawlotref24_Right.j1 k (!(Ar.eqb 32 a0_3 [0, 0, 0, 0, 0, 0, 0, 0, 0, 0, 0, 0, 0, 0, 0, 0, 0, 0, 0, 0, 0, 0, 0, 0, 0, 0, 0, 0, 0, 0, 0, 0])) a0_0 a0_1 a0_2 a0_3 a0_4)) = some r := H
        have A56 := Aside0.mk A560
        clear A560
        by_cases c57 : t267 = true
        ·subst c57
         have H1 : (drawlotref24_Right.j1 k false a0_0 a0_1 a0_2 a0_3 a0_4) = some r := by rw [if_pos rfl] at H; exact H
         clear H
         have H := H1
         clear H1
         have H' := Aside0.mk H
         clear H
         go_wp2_with (first | ((with_reducible refine gate_callee (f := 27) rfl ?_); refine goesL_ (some 37) rfl rfl Try.func27 (by kernel_rfl) rfl #[.string t253, .int .u8 119] rfl (by (try simp only [List.map_toArray, List.map_cons, List.map_nil]); first | done | rfl | (simp only [List.length_drop, List.length_take]; rfl)) ?_; (with_reducible refine (drawlotref24_has.calls k t253 119 false _ A18.out).mono ?_); rintro e w' ⟨rfl, ⟨nd, rfl⟩⟩; refine ⟨_, rfl, ?_⟩; have hcz58_0 : w16.cell? ⟨gb252, 0, none⟩ = some (.int .i64 a0_0) := (blk_cell BK252.out 0).trans (by first | (simp [Array.getElem?_append, Ar.cells_size]; done) | (simp [Array.getElem?_append, Array.getElem_push, Ar.cells_size]; done)); have hcz58_1 : w16.cell? ⟨gb252, 1, none⟩ = some (.int .i64 a0_1) := (blk_cell BK252.out 1).trans (by first | (simp [Array.getElem?_append, Ar.cells_size]; done) | (simp [Array.getElem?_append, Array.getElem_push, Ar.cells_size]; done)); have hcz58_2 : w16.cell? ⟨gb252, 2, none⟩ = some (.int .u64 a0_2) := (blk_cell BK252.out 2).trans (by first | (simp [Array.getElem?_append, Ar.cells_size]; done) | (simp [Array.getElem?_append, Array.getElem_push, Ar.cells_size]; done)); have hcz58_4 : w16.cell? ⟨gb252, 35, none⟩ = some (.int .i64 a0_4) := (blk_cell BK252.out 35).trans (by first | (simp [Array.getElem?_append, Ar.cells_size]; done) | (simp [Array.getElem?_append, Array.getElem_push, Ar.cells_size]; done))) | (go_at_call 27; (with_reducible refine (drawlotref24_has.calls k t253 110 true _ A47.out).mono ?_); rintro e w' ⟨rfl, ⟨nd, rfl⟩⟩) | (go_at_call 27; (with_reducible refine (drawlotref24_has.calls k t253 97 false _ A49.out).mono ?_); rintro e w' ⟨rfl, ⟨nd, rfl⟩⟩) | (go_at_call 27; (with_reducible refine (drawlotref24_has.calls k t253 104 true _ A56.out).mono ?_); rintro e w' ⟨rfl, ⟨nd, rfl⟩⟩))
         go_meet
         case rel => exact ⟨_, (false), (by first | rfl | (simp; done) | (simp [*]; done)), H', ⟨by first | omega | exact Nat.le_refl _⟩, ⟨by (with_reducible repeat (first | refine blk_drewN ?_ _ | refine blk_drew ?_ | refine blk_alloc ?_ _)); exact BK252.out⟩, ⟨by repeat (first | (with_reducible first | exact HB.out | apply below_alloc | apply pw_below_drewN | apply below_drew1 | refine below_set ?_ GE252.out) | exact HB.out)⟩⟩
        ·replace c57 := Bool.eq_false_iff.mpr c57
         subst c57
         have H1 : (drawlotref24_Right.j1 k (!(Ar.eqb 32 a0_3 [0, 0, 0, 0, 0, 0, 0, 0, 0, 0, 0, 0, 0, 0, 0, 0, 0, 0, 0, 0, 0, 0, 0, 0, 0, 0, 0, 0, 0, 0, 0, 0])) a0_0 a0_1 a0_2 a0_3 a0_4) = some r := by rw [if_neg (show ¬ (false = true) by decide)] at H; exact H
         clear H
         have H := H1
         clear H1
         have H' := Aside0.mk H
         clear H
         go_wp2_with (first | ((with_reducible refine gate_callee (f := 27) rfl ?_); refine goesL_ (some 37) rfl rfl Try.func27 (by kernel_rfl) rfl #[.string t253, .int .u8 119] rfl (by (try simp only [List.map_toArray, List.map_cons, List.map_nil]); first | done | rfl | (simp only [List.length_drop, List.length_take]; rfl)) ?_; (with_reducible refine (drawlotref24_has.calls k t253 119 false _ A18.out).mono ?_); rintro e w' ⟨rfl, ⟨nd, rfl⟩⟩; refine ⟨_, rfl, ?_⟩; have hcz59_0 : w16.cell? ⟨gb252, 0, none⟩ = some (.int .i64 a0_0) := (blk_cell BK252.out 0).trans (by first | (simp [Array.getElem?_append, Ar.cells_size]; done) | (simp [Array.getElem?_append, Array.getElem_push, Ar.cells_size]; done)); have hcz59_1 : w16.cell? ⟨gb252, 1, none⟩ = some (.int .i64 a0_1) := (blk_cell BK252.out 1).trans (by first | (simp [Array.getElem?_append, Ar.cells_size]; done) | (simp [Array.getElem?_append, Array.getElem_push, Ar.cells_size]; done)); have hcz59_2 : w16.cell? ⟨gb252, 2, none⟩ = some (.int .u64 a0_2) := (blk_cell BK252.out 2).trans (by first | (simp [Array.getElem?_append, Ar.cells_size]; done) | (simp [Array.getElem?_append, Array.getElem_push, Ar.cells_size]; done)); have hcz59_4 : w16.cell? ⟨gb252, 35, none⟩ = some (.int .i64 a0_4) := (blk_cell BK252.out 35).trans (by first | (simp [Array.getElem?_append, Ar.cells_size]; done) | (simp [Array.getElem?_append, Array.getElem_push, Ar.cells_size]; done))) | (go_at_call 27; (with_reducible refine (drawlotref24_has.calls k t253 110 true _ A47.out).mono ?_); rintro e w' ⟨rfl, ⟨nd, rfl⟩⟩) | (go_at_call 27; (with_reducible refine (drawlotref24_has.calls k t253 97 false _ A49.out).mono ?_); rintro e w' ⟨rfl, ⟨nd, rfl⟩⟩) | (go_at_call 27; (with_reducible refine (drawlotref24_has.calls k t253 104 false _ A56.out).mono ?_); rintro e w' ⟨rfl, ⟨nd, rfl⟩⟩) | ((with_reducible refine gate_dst (N := 70) rfl ?_); (try (refine gate_guard (by rfl) ?_; dsimp only)); refine Ar.gload_event rfl (T := 37) rfl Try.underlying37 rfl (D := (Ar.cells .u8 32 a0_3)) (by first | (rw [Ar.cells_size]; kernel_rfl) | (simp only [Array.size_append, Ar.cells_size, List.size_toArray, List.length_cons, List.length_nil]; kernel_rfl)) (A := ⟨gb252, 3, none⟩) rfl (Ar.blk_part (by (with_reducible repeat (first | refine blk_drewN ?_ _ | refine blk_drew ?_ | refine blk_alloc ?_ _)); exact BK252.out) (Ar.in_skip (a := 3) (c := 0) (by simp [Ar.cells_size]) Ar.in_first)) ?_) | ((with_reducible refine gate_dst (N := 71) rfl ?_); (try (refine gate_guard (by rfl) ?_; dsimp only)); refine Ar.build_event rfl (D := 71) rfl (T := 37) rfl (k := .u8) (n := 32) (l := [0, 0, 0, 0, 0, 0, 0, 0, 0, 0, 0, 0, 0, 0, 0, 0, 0, 0, 0, 0, 0, 0, 0, 0, 0, 0, 0, 0, 0, 0, 0, 0]) Try.underlying37 (by kernel_rfl) (by kernel_rfl) [] (by rfl) (by rfl) (by rfl) ?_) | ((with_reducible refine gate_dst (N := 72) rfl ?_); (try (refine gate_guard (by rfl) ?_; dsimp only)); refine Ar.eq_event rfl (D := 72) rfl (T := 37) (neq := true) rfl Try.underlying37 (by kernel_rfl) Try.underlying5 (by kernel_rfl) (k := .u8) (n := 32) (l := a0_3) (m := [0, 0, 0, 0, 0, 0, 0, 0, 0, 0, 0, 0, 0, 0, 0, 0, 0, 0, 0, 0, 0, 0, 0, 0, 0, 0, 0, 0, 0, 0, 0, 0]) (by first | rfl | (go_simp; done) | (go_simp; rfl)) (by first | rfl | (go_simp; done) | (go_simp; rfl)) ?_; dsimp only [if_true, if_false, Bool.false_eq_true]))
         go_meet
         case rel => exact ⟨_, (!(Ar.eqb 32 a0_3 [0, 0, 0, 0, 0, 0, 0, 0, 0, 0, 0, 0, 0, 0, 0, 0, 0, 0, 0, 0, 0, 0, 0, 0, 0, 0, 0, 0, 0, 0, 0, 0])), (by first | rfl | (simp; done) | (simp [*]; done)), H', ⟨by first | omega | exact Nat.le_refl _⟩, ⟨by (with_reducible repeat (first | refine blk_drewN ?_ _ | refine blk_drew ?_ | refine blk_alloc ?_ _)); exact BK252.out⟩, ⟨by repeat (first | (with_reducible first | exact HB.out | apply below_alloc | apply pw_below_drewN | apply below_drew1 | refine below_set ?_ GE252.out) | exact HB.out)⟩⟩
       ·rw [if_neg c55] at H
        have c55b0 : (a0_2 == 0) = false := beq_eq_false_iff_ne.mpr c55
        have c55b1 : (a0_2 != 0) = true := bne_iff_ne.mpr c55
        have H' := Aside0.mk H
        clear H
        go_wp2_with (first | ((with_reducible refine gate_callee (f := 27) rfl ?_); refine goesL_ (some 37) rfl rfl Try.func27 (by kernel_rfl) rfl #[.string t253, .int .u8 119] rfl (by (try simp only [List.map_toArray, List.map_cons, List.map_nil]); first | done | rfl | (simp only [List.length_drop, List.length_take]; rfl)) ?_; (with_reducible refine (drawlotref24_has.calls k t253 119 false _ A18.out).mono ?_); rintro e w' ⟨rfl, ⟨nd, rfl⟩⟩; refine ⟨_, rfl, ?_⟩; have hcz60_0 : w16.cell? ⟨gb252, 0, none⟩ = some (.int .i64 a0_0) := (blk_cell BK252.out 0).trans (by first | (simp [Array.getElem?_append, Ar.cells_size]; done) | (simp [Array.getElem?_append, Array.getElem_push, Ar.cells_size]; done)); have hcz60_1 : w16.cell? ⟨gb252, 1, none⟩ = some (.int .i64 a0_1) := (blk_cell BK252.out 1).trans (by first | (simp [Array.getElem?_append, Ar.cells_size]; done) | (simp [Array.getElem?_append, Array.getElem_push, Ar.cells_size]; done)); have hcz60_2 : w16.cell? ⟨gb252, 2, none⟩ = some (.int .u64 a0_2) := (blk_cell BK252.out 2).trans (by first | (simp [Array.getElem?_append, Ar.cells_size]; done) | (simp [Array.getElem?_append, Array.getElem_push, Ar.cells_size]; done)); have hcz60_4 : w16.cell? ⟨gb252, 35, none⟩ = some (.int .i64 a0_4) := (blk_cell BK252.out 35).trans (by first | (simp [Array.getElem?_append, Ar.cells_size]; done) | (simp [Array.getElem?_append, Array.getElem_push, Ar.cells_size]; done))) | (go_at_call 27; (with_reducible refine (drawlotref24_has.calls k t253 110 true _ A47.out).mono ?_); rintro e w' ⟨rfl, ⟨nd, rfl⟩⟩) | (go_at_call 27; (with_reducible refine (drawlotref24_has.calls k t253 97 false _ A49.out).mono ?_); rintro e w' ⟨rfl, ⟨nd, rfl⟩⟩))
        go_meet
        case rel => exact ⟨_, (true), (by first | rfl | (simp; done) | (simp [*]; done)), H', ⟨by first | omega | exact Nat.le_refl _⟩, ⟨by (with_reducible repeat (first | refine blk_drewN ?_ _ | refine blk_drew ?_ | refine blk_alloc ?_ _)); exact BK252.out⟩, ⟨by repeat (first | (with_reducible first | exact HB.out | apply below_alloc | apply pw_below_drewN | apply below_drew1 | refine below_set ?_ GE252.out) | exact HB.out)⟩⟩
     ·replace c48 := Bool.eq_false_iff.mpr c48
      subst c48
      have H1 : (if a0_4 = 0 then ((drawlotref24_has.f k t253 97).bind fun t268 => (if t268 = true then ((drawlotref24_has.f k t253 104).bind fun t269 => (if t269 = true then (drawlotref24_Right.j1 k false a0_0 a0_1 a0_2 a0_3 a0_4) else (drawlotref24_Right.j1 k (!(Ar.eqb 32 a0_3 [0, 0, 0, 0, 0, 0, 0, 0, 0, 0, 0, 0, 0, 0, 0, 0, 0, 0, 0, 0, 0, 0, 0, 0, 0, 0, 0, 0, 0, 0, 0, 0])) a0_0 a0_1 a0_2 a0_3 a0_4))) else (if a0_2 = 0 then ((drawlotref24_has.f k t253 104).bind fun t270 => (if t270 = true then (drawlotref24_Right.j1 k false a0_0 a0_1 a0_2 a0_3 a0_4) else (drawlotref24_Right.j1 k (!(Ar.eqb 32 a0_3 [0, 0, 0, 0, 0, 0, 0, 0, 0, 0, 0, 0, 0, 0, 0, 0, 0, 0, 0, 0, 0, 0, 0, 0, 0, 0, 0, 0, 0, 0, 0, 0])) a0_0 a0_1 a0_2 a0_3 a0_4))) else (drawlotref24_Right.j1 k true a0_0 a0_1 a0_2 a0_3 a0_4)))) else (drawlotref24_Right.j1 k true a0_0 a0_1 a0_2 a0_3 a0_4)) = some r := by rw [if_neg (show ¬ (false = true) by decide)] at H; exact H
      clear H
      have H := H1
      clear H1
      by_cases c61 : a0_4 = 0
      ·rw [if_pos c61] at H
       have c61b0 : (a0_4 == 0) = true := beq_iff_eq.mpr c61
       have c61b1 : (a0_4 != 0) = false := bne_eq_false_iff_eq.mpr c61
       clear c61
       replace H := Option.bind_eq_some_iff.mp H
       obtain ⟨t268, A620, H⟩ := H
       replace H : (if t268 = true then ((drawlotref24_has.f k t253 104).bind fun t269 => (if t269 = true then (drawlotref24_Right.j1 k false a0_0 a0_1 a0_2 a0_3 a0_4) else (drawlotref24_Right.j1 k (!(Ar.eqb 32 a0_3 [0, 0, 0, 0, 0, 0, 0, 0, 0, 0, 0, 0, 0, 0, 0, 0, 0, 0, 0, 0, 0, 0, 0, 0, 0, 0, 0, 0, 0, 0, 0, 0])) a0_0 a0_1 a0_2 a0_3 a0_4))) else (if a0_2 = 0 then ((drawlotref24_has.f k t253 104).bind fun t270 => (if t270 = true then (drawlotref24_Right.j1 k false a0_0 a0_1 a0_2 a0_3 a0_4) else (drawlotref24_Right.j1 k (!(Ar.eqb 32 a0_3 [0, 0, 0, 0, 0, 0, 0, 0, 0, 0, 0, 0, 0, 0, 0, 0, 0, 0, 0, 0, 0, 0, 0, 0, 0, 0, 0, 0, 0, 0, 0, 0])) a0_0 a0_1 a0_2 a0_3 a0_4))) else (drawlotref24_Right.j1 k true a0_0 a0_1 a0_2 a0_3 a0_4))) = some r := H
       have A62 := Aside0.mk A620
       clear A620
       by_cases c63 : t268 = true
       ·subst c63
        have H1 : ((drawlotref24_has.f k t253 104).bind fun t269 => (if t269 = true then (drawlotref24_Right.j1 k false a0_0 a0_1 a0_2 a0_3 a0_4) else (drawlotref24_Right.j1 k (!(Ar.eqb 32 a0_3 [0, 0, 0, 0, 0, 0, 0, 0, 0, 0, 0, 0, 0, 0, 0, 0, 0, 0, 0, 0, 0, 0, 0, 0, 0, 0, 0, 0, 0, 0, 0, 0])) a0_0 a0_1 a0_2 a0_3 a0_4))) = some r := by rw [if_pos rfl] at H; exact H
        clear H
        have H := H1
        clear H1
        replace H := Option.bind_eq_some_iff.mp H
        obtain ⟨t269, A640, H⟩ := H
        replace H : (if t269 = true then (drawlotref24_Right.j1 k false a0_0 a0_1 a0_2 a0_3 a0_4) else (drawlotref24_Right.j1 k (!(Ar.eqb 32 a0_3 [0, 0, 0, 0, 0, 0, 0, 0, 0, 0, 0, 0, 0, 0, 0, 0, 0, 0, 0, 0, 0, 0, 0, 0, 0, 0, 0, 0, 0, 0, 0, 0])) a0_0 a0_1 a0_2 a0_3 a0_4)) = some r := H
        have A64 := Aside0.mk A640
        clear A640
        by_cases c65 : t269 = true
        ·subst c65
         have H1 : (drawlotref24_Right.j1 k false a0_0 a0_1 a0_2 a0_3 a0_4) = some r := by rw [if_pos rfl] at H; exact H
         clear H
         have H := H1
         clear H1
         have H' := Aside0.mk H
         clear H
         go_wp2_with (first | ((with_reducible refine gate_callee (f := 27) rfl ?_); refine goesL_ (some 37) rfl rfl Try.func27 (by kernel_rfl) rfl #[.string t253, .int .u8 119] rfl (by (try simp only [List.map_toArray, List.map_cons, List.map_nil]); first | done | rfl | (simp only [List.length_drop, List.length_take]; rfl)) ?_; (with_reducible refine (drawlotref24_has.calls k t253 119 false _ A18.out).mono ?_); rintro e w' ⟨rfl, ⟨nd, rfl⟩⟩; refine ⟨_, rfl, ?_⟩; have hcz66_0 : w16.cell? ⟨gb252, 0, none⟩ = some (.int .i64 a0_0) := (blk_cell BK252.out 0).trans (by first | (simp [Array.getElem?_append, Ar.cells_size]; done) | (simp [Array.getElem?_append, Array.getElem_push, Ar.cells_size]; done)); have hcz66_1 : w16.cell? ⟨gb252, 1, none⟩ = some (.int .i64 a0_1) := (blk_cell BK252.out 1).trans (by first | (simp [Array.getElem?_append, Ar.cells_size]; done) | (simp [Array.getElem?_append, Array.getElem_push, Ar.cells_size]; done)); have hcz66_2 : w16.cell? ⟨gb252, 2, none⟩ = some (.int .u64 a0_2) := (blk_cell BK252.out 2).trans (by first | (simp [Array.getElem?_append, Ar.cells_size]; done) | (simp [Array.getElem?_append, Array.getElem_push, Ar.cells_size]; done)); have hcz66_4 : w16.cell? ⟨gb252, 35, none⟩ = some (.int .i64 a0_4) := (blk_cell BK252.out 35).trans (by first | (simp [Array.getElem?_append, Ar.cells_size]; done) | (simp [Array.getElem?_append, Array.getElem_push, Ar.cells_size]; done))) | (go_at_call 27; (with_reducible refine (drawlotref24_has.calls k t253 110 false _ A47.out).mono ?_); rintro e w' ⟨rfl, ⟨nd, rfl⟩⟩) | (go_at_call 27; (with_reducible refine (drawlotref24_has.calls k t253 97 true _ A62.out).mono ?_); rintro e w' ⟨rfl, ⟨nd, rfl⟩⟩) | (go_at_call 27; (with_reducible refine (drawlotref24_has.calls k t253 104 true _ A64.out).mono ?_); rintro e w' ⟨rfl, ⟨nd, rfl⟩⟩))
         go_meet
         case rel => exact ⟨_, (false), (by first | rfl | (simp; done) | (simp [*]; done)), H', ⟨by first | omega | exact Nat.le_refl _⟩, ⟨by (with_reducible repeat (first | refine blk_drewN ?_ _ | refine blk_drew ?_ | refine blk_alloc ?_ _)); exact BK252.out⟩, ⟨by repeat (first | (with_reducible first | exact HB.out | apply below_alloc | apply pw_below_drewN | apply below_drew1 | refine below_set ?_ GE252.out) | exact HB.out)⟩⟩
        ·replace c65 := Bool.eq_false_iff.mpr c65
         subst c65
         have H1 : (drawlotref24_Right.j1 k (!(Ar.eqb 32 a0_3 [0, 0, 0, 0, 0, 0, 0, 0, 0, 0, 0, 0, 0, 0, 0, 0, 0, 0, 0, 0, 0, 0, 0, 0, 0, 0, 0, 0, 0, 0, 0, 0])) a0_0 a0_1 a0_2 a0_3 a0_4) = some r := by rw [if_neg (show ¬ (false = true) by decide)] at H; exact H
         clear H
         have H := H1
         clear H1
         have H' := Aside0.mk H
         clear H
         go_wp2_with (first | ((with_reducible refine gate_callee (f := 27) rfl ?_); refine goesL_ (some 37) rfl rfl Try.func27 (by kernel_rfl) rfl #[.string t253, .int .u8 119] rfl (by (try simp only [List.map_toArray, List.map_cons, List.map_nil]); first | done | rfl | (simp only [List.length_drop, List.length_take]; rfl)) ?_; (with_reducible refine (drawlotref24_has.calls k t253 119 false _ A18.out).mono ?_); rintro e w' ⟨rfl, ⟨nd, rfl⟩⟩; refine ⟨_, rfl, ?_⟩; have hcz67_0 : w16.cell? ⟨gb252, 0, none⟩ = some (.int .i64 a0_0) := (blk_cell BK252.out 0).trans (by first | (simp [Array.getElem?_append, Ar.cells_size]; done) | (simp [Array.getElem?_append, Array.getElem_push, Ar.cells_size]; done)); have hcz67_1 : w16.cell? ⟨gb252, 1, none⟩ = some (.int .i64 a0_1) := (blk_cell BK252.out 1).trans (by first | (simp [Array.getElem?_append, Ar.cells_size]; done) | (simp [Array.getElem?_append, Array.getElem_push, Ar.cells_size]; done)); have hcz67_2 : w16.cell? ⟨gb252, 2, none⟩ = some (.int .u64 a0_2) := (blk_cell BK252.out 2).trans (by first | (simp [Array.getElem?_append, Ar.cells_size]; done) | (simp [Array.getElem?_append, Array.getElem_push, Ar.cells_size]; done)); have hcz67_4 : w16.cell? ⟨gb252, 35, none⟩ = some (.int .i64 a0_4) := (blk_cell BK252.out 35).trans (by first | (simp [Array.getElem?_append, Ar.cells_size]; done) | (simp [Array.getElem?_append, Array.getElem_push, Ar.cells_size]; done))) | (go_at_call 27; (with_reducible refine (drawlotref24_has.calls k t253 110 false _ A47.out).mono ?_); rintro e w' ⟨rfl, ⟨nd, rfl⟩⟩) | (go_at_call 27; (with_reducible refine (drawlotref24_has.calls k t253 97 true _ A62.out).mono ?_); rintro e w' ⟨rfl, ⟨nd, rfl⟩⟩) | (go_at_call 27; (with_reducible refine (drawlotref24_has.calls k t253 104 false _ A64.out).mono ?_); rintro e w' ⟨rfl, ⟨nd, rfl⟩⟩) | ((with_reducible refine gate_dst (N := 70) rfl ?_); (try (refine gate_guard (by rfl) ?_; dsimp only)); refine Ar.gload_event rfl (T := 37) rfl Try.underlying37 rfl (D := (Ar.cells .u8 32 a0_3)) (by first | (rw [Ar.cells_size]; kernel_rfl) | (simp only [Array.size_append, Ar.cells_size, List.size_toArray, List.length_cons, List.length_nil]; kernel_rfl)) (A := ⟨gb252, 3, none⟩) rfl (Ar.blk_part (by (with_reducible repeat (first | refine blk_drewN ?_ _ | refine blk_drew ?_ | refine blk_alloc ?_ _)); exact BK252.out) (Ar.in_skip (a := 3) (c := 0) (by simp [Ar.cells_size]) Ar.in_first)) ?_) | ((with_reducible refine gate_dst (N := 71) rfl ?_); (try (refine gate_guard (by rfl) ?_; dsimp only)); refine Ar.build_event rfl (D := 71) rfl (T := 37) rfl (k := .u8) (n := 32) (l := [0, 0, 0, 0, 0, 0, 0, 0, 0, 0, 0, 0, 0, 0, 0, 0, 0, 0, 0, 0, 0, 0, 0, 0, 0, 0, 0, 0, 0, 0, 0, 0]) Try.underlying37 (by kernel_rfl) (by kernel_rfl) [] (by rfl) (by rfl) (by rfl) ?_) | ((with_reducible refine gate_dst (N := 72) rfl ?_); (try (refine gate_guard (by rfl) ?_; dsimp only)); refine Ar.eq_event rfl (D := 72) rfl (T := 37) (neq := true) rfl Try.underlying37 (by kernel_rfl) Try.underlying5 (by kernel_rfl) (k := .u8) (n := 32) (l := a0_3) (m := [0, 0, 0, 0, 0, 0, 0, 0, 0, 0, 0, 0, 0, 0, 0, 0, 0, 0, 0, 0, 0, 0, 0, 0, 0, 0, 0, 0, 0, 0, 0, 0]) (by first | rfl | (go_simp; done) | (go_simp; rfl)) (by first | rfl | (go_simp; done) | (go_simp; rfl)) ?_; dsimp only [if_true, if_false, Bool.false_eq_true]))
         go_meet
         case rel => exact ⟨_, (!(Ar.eqb 32 a0_3 [0, 0, 0, 0, 0, 0, 0, 0, 0, 0, 0, 0, 0, 0, 0, 0, 0, 0, 0, 0, 0, 0, 0, 0, 0, 0, 0, 0, 0, 0, 0, 0])), (by first | rfl | (simp; done) | (simp [*]; done)), H', ⟨by first | omega | exact Nat.le_refl _⟩, ⟨by (with_reducible repeat (first | refine blk_drewN ?_ _ | refine blk_drew ?_ | refine blk_alloc ?_ _)); exact BK252.out⟩, ⟨by repeat (first | (with_reducible first | exact HB.out | apply below_alloc | apply pw_below_drewN | apply below_drew1 | refine below_set ?_ GE252.out) | exact HB.out)⟩⟩
       ·replace c63 := Bool.eq_false_iff.mpr c63
        subst c63
        have H1 : (if a0_2 = 0 then ((drawlotref24_has.f k t253 104).bind fun t270 => (if t270 = true then (drawlotref24_Right.j1 k false a0_0 a0_1 a0_2 a0_3 a0_4) else (drawlotref24_Right.j1 k (!(Ar.eqb 32 a0_3 [0, 0, 0, 0, 0, 0, 0, 0, 0, 0, 0, 0, 0, 0, 0, 0, 0, 0, 0, 0, 0, 0, 0, 0, 0, 0, 0, 0, 0, 0, 0, 0])) a0_0 a0_1 a0_2 a0_3 a0_4))) else (drawlotref24_Right.j1 k true a0_0 a0_1 a0_2 a0_3 a0_4)) = some r := by rw [if_neg (show ¬ (false = true) by decide)] at H; exact H
        clear H
        have H := H1
        clear H1
        by_cases c68 : a0_2 = 0
        ·rw [if_pos c68] at H
         have c68b0 : (a0_2 == 0) = true := beq_iff_eq.mpr c68
         have c68b1 : (a0_2 != 0) = false := bne_eq_false_iff_eq.mpr c68
         clear c68
         replace H := Option.bind_eq_some_iff.mp H
         obtain ⟨t270, A690, H⟩ := H
         replace H : (if t270 = true then (drawlotref24_Right.j1 k false a0_0 a0_1 a0_2 a0_3 a0_4) else (drawlotref24_Right.j1 k (!(Ar.eqb 32 a0_3 [0, 0, 0, 0, 0, 0, 0, 0, 0, 0, 0, 0, 0, 0, 0, 0, 0, 0, 0, 0, 0, 0, 0, 0, 0, 0, 0, 0, 0, 0, 0, 0])) a0_0 a0_1 a0_2 a0_3 a0_4)) = some r := H
         have A69 := Aside0.mk A690
         clear A690
         by_cases c70 : t270 = true
         ·subst c70
          have H1 : (drawlotref24_Right.j1 k false a0_0 a0_1 a0_2 a0_3 a0_4) = some r := by rw [if_pos rfl] at H; exact H
          clear H
          have H := H1
          clear H1
          have H' := Aside0.mk H
          clear H
          go_wp2_with (first | ((with_reducible refine gate_callee (f := 27) rfl ?_); refine goesL_ (some 37) rfl rfl Try.func27 (by kernel_rfl) rfl #[.string t253, .int .u8 119] rfl (by (try simp only [List.map_toArray, List.map_cons, List.map_nil]); first | done | rfl | (simp only [List.length_drop, List.length_take]; rfl)) ?_; (with_reducible refine (drawlotref24_has.calls k t253 119 false _ A18.out).mono ?_); rintro e w' ⟨rfl, ⟨nd, rfl⟩⟩; refine ⟨_, rfl, ?_⟩; have hcz71_0 : w16.cell? ⟨gb252, 0, none⟩ = some (.int .i64 a0_0) := (blk_cell BK252.out 0).trans (by first | (simp [Array.getElem?_append, Ar.cells_size]; done) | (simp [Array.getElem?_append, Array.getElem_push, Ar.cells_size]; done)); have hcz71_1 : w16.cell? ⟨gb252, 1, none⟩ = some (.int .i64 a0_1) := (blk_cell BK252.out 1).trans (by first | (simp [Array.getElem?_append, Ar.cells_size]; done) | (simp [Array.getElem?_append, Array.getElem_push, Ar.cells_size]; done)); have hcz71_2 : w16.cell? ⟨gb252, 2, none⟩ = some (.int .u64 a0_2) := (blk_cell BK252.out 2).trans (by first | (simp [Array.getElem?_append, Ar.cells_size]; done) | (simp [Array.getElem?_append, Array.getElem_push, Ar.cells_size]; done)); have hcz71_4 : w16.cell? ⟨gb252, 35, none⟩ = some (.int .i64 a0_4) := (blk_cell BK252.out 35).trans (by first | (simp [Array.getElem?_append, Ar.cells_size]; done) | (simp [Array.getElem?_append, Array.getElem_push, Ar.cells_size]; done))) | (go_at_call 27; (with_reducible refine (drawlotref24_has.calls k t253 110 false _ A47.out).mono ?_); rintro e w' ⟨rfl, ⟨nd, rfl⟩⟩) | (go_at_call 27; (with_reducible refine (drawlotref24_has.calls k t253 97 false _ A62.out).mono ?_); rintro e w' ⟨rfl, ⟨nd, rfl⟩⟩) | (go_at_call 27; (with_reducible refine (drawlotref24_has.calls k t253 104 true _ A69.out).mono ?_); rintro e w' ⟨rfl, ⟨nd, rfl⟩⟩))
          go_meet
          case rel => exact ⟨_, (false), (by first | rfl | (simp; done) | (simp [*]; done)), H', ⟨by first | omega | exact Nat.le_refl _⟩, ⟨by (with_reducible repeat (first | refine blk_drewN ?_ _ | refine blk_drew ?_ | refine blk_alloc ?_ _)); exact BK252.out⟩, ⟨by repeat (first | (with_reducible first | exact HB.out | apply below_alloc | apply pw_below_drewN | apply below_drew1 | refine below_set ?_ GE252.out) | exact HB.out)⟩⟩
         ·replace c70 := Bool.eq_false_iff.mpr c70
          subst c70
          have H1 : (drawlotref24_Right.j1 k (!(Ar.eqb 32 a0_3 [0, 0, 0, 0, 0, 0, 0, 0, 0, 0, 0, 0, 0, 0, 0, 0, 0, 0, 0, 0, 0, 0, 0, 0, 0, 0, 0, 0, 0, 0, 0, 0])) a0_0 a0_1 a0_2 a0_3 a0_4) = some r := by rw [if_neg (show ¬ (false = true) by decide)] at H; exact H
          clear H
          have H := H1
          clear H1
          have H' := Aside0.mk H
          clear H
          go_wp2_with (first | ((with_reducible refine gate_callee (f := 27) rfl ?_); refine goesL_ (some 37) rfl rfl Try.func27 (by kernel_rfl) rfl #[.string t253, .int .u8 119] rfl (by (try simp only [List.map_toArray, List.map_cons, List.map_nil]); first | done | rfl | (simp only [List.length_drop, List.length_take]; rfl)) ?_; (with_reducible refine (drawlotref24_has.calls k t253 119 false _ A18.out).mono ?_); rintro e w' ⟨rfl, ⟨nd, rfl⟩⟩; refine ⟨_, rfl, ?_⟩; have hcz72_0 : w16.cell? ⟨gb252, 0, none⟩ = some (.int .i64 a0_0) := (blk_cell BK252.out 0).trans (by first | (simp [Array.getElem?_append, Ar.cells_size]; done) | (simp [Array.getElem?_append, Array.getElem_push, Ar.cells_size]; done)); have hcz72_1 : w16.cell? ⟨gb252, 1, none⟩ = some (.int .i64 a0_1) := (blk_cell BK252.out 1).trans (by first | (simp [Array.getElem?_append, Ar.cells_size]; done) | (simp [Array.getElem?_append, Array.getElem_push, Ar.cells_size]; done)); have hcz72_2 : w16.cell? ⟨gb252, 2, none⟩ = some (.int .u64 a0_2) := (blk_cell BK252.out 2).trans (by first | (simp [Array.getElem?_append, Ar.cells_size]; done) | (simp [Array.getElem?_append, Array.getElem_push, Ar.cells_size]; done)); have hcz72_4 : w16.cell? ⟨gb252, 35, none⟩ = some (.int .i64 a0_4) := (blk_cell BK252.out 35).trans (by first | (simp [Array.getElem?_append, Ar.cells_size]; done) | (simp [Array.getElem?_append, Array.getElem_push, Ar.cells_size]; done))) | (go_at_call 27; (with_reducible refine (drawlotref24_has.calls k t253 110 false _ A47.out).mono ?_); rintro e w' ⟨rfl, ⟨nd, rfl⟩⟩) | (go_at_call 27; (with_reducible refine (drawlotref24_has.calls k t253 97 false _ A62.out).mono ?_); rintro e w' ⟨rfl, ⟨nd, rfl⟩⟩) | (go_at_call 27; (with_reducible refine (drawlotref24_has.calls k t253 104 false _ A69.out).mono ?_); rintro e w' ⟨rfl, ⟨nd, rfl⟩⟩) | ((with_reducible refine gate_dst (N := 70) rfl ?_); (try (refine gate_guard (by rfl) ?_; dsimp only)); refine Ar.gload_event rfl (T := 37) rfl Try.underlying37 rfl (D := (Ar.cells .u8 32 a0_3)) (by first | (rw [Ar.cells_size]; kernel_rfl) | (simp only [Array.size_append, Ar.cells_size, List.size_toArray, List.length_cons, List.length_nil]; kernel_rfl)) (A := ⟨gb252, 3, none⟩) rfl (Ar.blk_part (by (with_reducible repeat (first | refine blk_drewN ?_ _ | refine blk_drew ?_ | refine blk_alloc ?_ _)); exact BK252.out) (Ar.in_skip (a := 3) (c := 0) (by simp [Ar.cells_size]) Ar.in_first)) ?_) | ((with_reducible refine gate_dst (N := 71) rfl ?_); (try (refine gate_guard (by rfl) ?_; dsimp only)); refine Ar.build_event rfl (D := 71) rfl (T := 37) rfl (k := .u8) (n := 32) (l := [0, 0, 0, 0, 0, 0, 0, 0, 0, 0, 0, 0, 0, 0, 0, 0, 0, 0, 0, 0, 0, 0, 0, 0, 0, 0, 0, 0, 0, 0, 0, 0]) Try.underlying37 (by kernel_rfl) (by kernel_rfl) [] (by rfl) (by rfl) (by rfl) ?_) | ((with_reducible refine gate_dst (N := 72) rfl ?_); (try (refine gate_guard (by rfl) ?_; dsimp only)); refine Ar.eq_event rfl (D := 72) rfl (T := 37) (neq := true) rfl Try.underlying37 (by kernel_rfl) Try.underlying5 (by kernel_rfl) (k := .u8) (n := 32) (l := a0_3) (m := [0, 0, 0, 0, 0, 0, 0, 0, 0, 0, 0, 0, 0, 0, 0, 0, 0, 0, 0, 0, 0, 0, 0, 0, 0, 0, 0, 0, 0, 0, 0, 0]) (by first | rfl | (go_simp; done) | (go_simp; rfl)) (by first | rfl | (go_simp; done) | (go_simp; rfl)) ?_; dsimp only [if_true, if_false, Bool.false_eq_true]))
          go_meet
          case rel => exact ⟨_, (!(Ar.eqb 32 a0_3 [0, 0, 0, 0, 0, 0, 0, 0, 0, 0, 0, 0, 0, 0, 0, 0, 0, 0, 0, 0, 0, 0, 0, 0, 0, 0, 0, 0, 0, 0, 0, 0])), (by first | rfl | (simp; done) | (simp [*]; done)), H', ⟨by first | omega | exact Nat.le_refl _⟩, ⟨by (with_reducible repeat (first | refine blk_drewN ?_ _ | refine blk_drew ?_ | refine blk_alloc ?_ _)); exact BK252.out⟩, ⟨by repeat (first | (with_reducible first | exact HB.out | apply below_alloc | apply pw_below_drewN | apply below_drew1 | refine below_set ?_ GE252.out) | exact HB.out)⟩⟩
        ·rw [if_neg c68] at H
         have c68b0 : (a0_2 == 0) = false := beq_eq_false_iff_ne.mpr c68
         have c68b1 : (a0_2 != 0) = true := bne_iff_ne.mpr c68
         have H' := Aside0.mk H
         clear H
         go_wp2_with (first | ((with_reducible refine gate_callee (f := 27) rfl ?_); refine goesL_ (some 37) rfl rfl Try.func27 (by kernel_rfl) rfl #[.string t253, .int .u8 119] rfl (by (try simp only [List.map_toArray, List.map_cons, List.map_nil]); first | done | rfl | (simp only [List.length_drop, List.length_take]; rfl)) ?_; (with_reducible refine (drawlotref24_has.calls k t253 119 false _ A18.out).mono ?_); rintro e w' ⟨rfl, ⟨nd, rfl⟩⟩; refine ⟨_, rfl, ?_⟩; have hcz73_0 : w16.cell? ⟨gb252, 0, none⟩ = some (.int .i64 a0_0) := (blk_cell BK252.out 0).trans (by first | (simp [Array.getElem?_append, Ar.cells_size]; done) | (simp [Array.getElem?_append, Array.getElem_push, Ar.cells_size]; done)); have hcz73_1 : w16.cell? ⟨gb252, 1, none⟩ = some (.int .i64 a0_1) := (blk_cell BK252.out 1).trans (by first | (simp [Array.getElem?_append, Ar.cells_size]; done) | (simp [Array.getElem?_append, Array.getElem_push, Ar.cells_size]; done)); have hcz73_2 : w16.cell? ⟨gb252, 2, none⟩ = some (.int .u64 a0_2) := (blk_cell BK252.out 2).trans (by first | (simp [Array.getElem?_append, Ar.cells_size]; done) | (simp [Array.getElem?_append, Array.getElem_push, Ar.cells_size]; done)); have hcz73_4 : w16.cell? ⟨gb252, 35, none⟩ = some (.int .i64 a0_4) := (blk_cell BK252.out 35).trans (by first | (simp [Array.getElem?_append, Ar.cells_size]; done) | (simp [Array.getElem?_append, Array.getElem_push, Ar.cells_size]; done))) | (go_at_call 27; (with_reducible refine (drawlotref24_has.calls k t253 110 false _ A47.out).mono ?_); rintro e w' ⟨rfl, ⟨nd, rfl⟩⟩) | (go_at_call 27; (with_reducible refine (drawlotref24_has.calls k t253 97 false _ A62.out).mono ?_); rintro e w' ⟨rfl, ⟨nd, rfl⟩⟩))
         go_meet
         case rel => exact ⟨_, (true), (by first | rfl | (simp; done) | (simp [*]; done)), H', ⟨by first | omega | exact Nat.le_refl _⟩, ⟨by (with_reducible repeat (first | refine blk_drewN ?_ _ | refine blk_drew ?_ | refine blk_alloc ?_ _)); exact BK252.out⟩, ⟨by repeat (first | (with_reducible first | exact HB.out | apply below_alloc | apply pw_below_drewN | apply below_drew1 | refine below_set ?_ GE252.out) | exact HB.out)⟩⟩
      ·rw [if_neg c61] at H
       have c61b0 : (a0_4 == 0) = false := beq_eq_false_iff_ne.mpr c61
       have c61b1 : (a0_4 != 0) = true := bne_iff_ne.mpr c61
       have H' := Aside0.mk H
       clear H
       go_wp2_with (first | ((with_reducible refine gate_callee (f := 27) rfl ?_); refine goesL_ (some 37) rfl rfl Try.func27 (by kernel_rfl) rfl #[.string t253, .int .u8 119] rfl (by (try simp only [List.map_toArray, List.map_cons, List.map_nil]); first | done | rfl | (simp only [List.length_drop, List.length_take]; rfl)) ?_; (with_reducible refine (drawlotref24_has.calls k t253 119 false _ A18.out).mono ?_); rintro e w' ⟨rfl, ⟨nd, rfl⟩⟩; refine ⟨_, rfl, ?_⟩; have hcz74_0 : w16.cell? ⟨gb252, 0, none⟩ = some (.int .i64 a0_0) := (blk_cell BK252.out 0).trans (by first | (simp [Array.getElem?_append, Ar.cells_size]; done) | (simp [Array.getElem?_append, Array.getElem_push, Ar.cells_size]; done)); have hcz74_1 : w16.cell? ⟨gb252, 1, none⟩ = some (.int .i64 a0_1) := (blk_cell BK252.out 1).trans (by first | (simp [Array.getElem?_append, Ar.cells_size]; done) | (simp [Array.getElem?_append, Array.getElem_push, Ar.cells_size]; done)); have hcz74_2 : w16.cell? ⟨gb252, 2, none⟩ = some (.int .u64 a0_2) := (blk_cell BK252.out 2).trans (by first | (simp [Array.getElem?_append, Ar.cells_size]; done) | (simp [Array.getElem?_append, Array.getElem_push, Ar.cells_size]; done)); have hcz74_4 : w16.cell? ⟨gb252, 35, none⟩ = some (.int .i64 a0_4) := (blk_cell BK252.out 35).trans (by first | (simp [Array.getElem?_append, Ar.cells_size]; done) | (simp [Array.getElem?_append, Array.getElem_push, Ar.cells_size]; done))) | (go_at_call 27; (with_reducible refine (drawlotref24_has.calls k t253 110 false _ A47.out).mono ?_); rintro e w' ⟨rfl, ⟨nd, rfl⟩⟩))
       go_meet
       case rel => exact ⟨_, (true), (by first | rfl | (simp; done) | (simp [*]; done)), H', ⟨by first | omega | exact Nat.le_refl _⟩, ⟨by (with_reducible repeat (first | refine blk_drewN ?_ _ | refine blk_drew ?_ | refine blk_alloc ?_ _)); exact BK252.out⟩, ⟨by repeat (first | (with_reducible first | exact HB.out | apply below_alloc | apply pw_below_drewN | apply below_drew1 | refine below_set ?_ GE252.out) | exact HB.out)⟩⟩
    ·rw [if_neg c46] at H
     have c46b0 : (a0_1 == 0) = false := beq_eq_false_iff_ne.mpr c46
     have c46b1 : (a0_1 != 0) = true := bne_iff_ne.mpr c46
     have H' := Aside0.mk H
     clear H
     go_wp2_with (first | ((with_reducible refine gate_callee (f := 27) rfl ?_); refine goesL_ (some 37) rfl rfl Try.func27 (by kernel_rfl) rfl #[.string t253, .int .u8 119] rfl (by (try simp only [List.map_toArray, List.map_cons, List.map_nil]); first | done | rfl | (simp only [List.length_drop, List.length_take]; rfl)) ?_; (with_reducible refine (drawlotref24_has.calls k t253 119 false _ A18.out).mono ?_); rintro e w' ⟨rfl, ⟨nd, rfl⟩⟩; refine ⟨_, rfl, ?_⟩; have hcz75_0 : w16.cell? ⟨gb252, 0, none⟩ = some (.int .i64 a0_0) := (blk_cell BK252.out 0).trans (by first | (simp [Array.getElem?_append, Ar.cells_size]; done) | (simp [Array.getElem?_append, Array.getElem_push, Ar.cells_size]; done)); have hcz75_1 : w16.cell? ⟨gb252, 1, none⟩ = some (.int .i64 a0_1) := (blk_cell BK252.out 1).trans (by first | (simp [Array.getElem?_append, Ar.cells_size]; done) | (simp [Array.getElem?_append, Array.getElem_push, Ar.cells_size]; done)); have hcz75_2 : w16.cell? ⟨gb252, 2, none⟩ = some (.int .u64 a0_2) := (blk_cell BK252.out 2).trans (by first | (simp [Array.getElem?_append, Ar.cells_size]; done) | (simp [Array.getElem?_append, Array.getElem_push, Ar.cells_size]; done)); have hcz75_4 : w16.cell? ⟨gb252, 35, none⟩ = some (.int .i64 a0_4) := (blk_cell BK252.out 35).trans (by first | (simp [Array.getElem?_append, Ar.cells_size]; done) | (simp [Array.getElem?_append, Array.getElem_push, Ar.cells_size]; done))))
     go_meet
     case rel => exact ⟨_, (true), (by first | rfl | (simp; done) | (simp [*]; done)), H', ⟨by first | omega | exact Nat.le_refl _⟩, ⟨by (with_reducible repeat (first | refine blk_drewN ?_ _ | refine blk_drew ?_ | refine blk_alloc ?_ _)); exact BK252.out⟩, ⟨by repeat (first | (with_reducible first | exact HB.out | apply below_alloc | apply pw_below_drewN | apply below_drew1 | refine below_set ?_ GE252.out) | exact HB.out)⟩⟩
  case rest =>
   clear HC15
   try clear c1
   try clear c2
   try clear p2
   try clear c3
   try clear c3b0
   try clear c3b1
   try clear q3
   try clear c4
   try clear c5
   try clear c6
   try clear c7
   try clear c8
   try clear c8b0
   try clear c9
   try clear c9b0
   try clear c10
   try clear c10b0
   try clear c15
   try clear c17
   try clear c19
   try clear c20
   try clear c21
   try clear c23
   try clear c25
   try clear c26
   try clear c26b0
   try clear c26b1
   try clear c27
   try clear c28
   try clear c32
   try clear c32b0
   try clear c32b1
   try clear c34
   try clear c36
   try clear c39
   try clear c39b0
   try clear c39b1
   try clear q39
   try clear c41
   try clear c46
   try clear c46b0
   try clear c46b1
   try clear c48
   try clear c50
   try clear c52
   try clear c55
   try clear c55b0
   try clear c55b1
   try clear c57
   try clear c61
   try clear c61b0
   try clear c61b1
   try clear c63
   try clear c65
   try clear c68
   try clear c68b0
   try clear c68b1
   try clear c70
   try clear hcz11_0
   try clear hcz11_1
   try clear hcz11_2
   try clear hcz11_4
   try clear hcz12_0
   try clear hcz12_1
   try clear hcz12_2
   try clear hcz12_4
   try clear hcz13_0
   try clear hcz13_1
   try clear hcz13_2
   try clear hcz13_4
   try clear hcz14_0
   try clear hcz14_1
   try clear hcz14_2
   try clear hcz14_4
   try clear hcz17_0
   try clear hcz17_1
   try clear hcz17_2
   try clear hcz17_4
   try clear hcz29_0
   try clear hcz29_1
   try clear hcz29_2
   try clear hcz29_4
   try clear hcz30_0
   try clear hcz30_1
   try clear hcz30_2
   try clear hcz30_4
   try clear hcz31_0
   try clear hcz31_1
   try clear hcz31_2
   try clear hcz31_4
   try clear hcz37_0
   try clear hcz37_1
   try clear hcz37_2
   try clear hcz37_4
   try clear hcz38_0
   try clear hcz38_1
   try clear hcz38_2
   try clear hcz38_4
   try clear hcz42_0
   try clear hcz42_1
   try clear hcz42_2
   try clear hcz42_4
   try clear hcz43_0
   try clear hcz43_1
   try clear hcz43_2
   try clear hcz43_4
   try clear hcz44_0
   try clear hcz44_1
   try clear hcz44_2
   try clear hcz44_4
   try clear hcz45_0
   try clear hcz45_1
   try clear hcz45_2
   try clear hcz45_4
   try clear hcz53_0
   try clear hcz53_1
   try clear hcz53_2
   try clear hcz53_4
   try clear hcz54_0
   try clear hcz54_1
   try clear hcz54_2
   try clear hcz54_4
   try clear hcz58_0
   try clear hcz58_1
   try clear hcz58_2
   try clear hcz58_4
   try clear hcz59_0
   try clear hcz59_1
   try clear hcz59_2
   try clear hcz59_4
   try clear hcz60_0
   try clear hcz60_1
   try clear hcz60_2
   try clear hcz60_4
   try clear hcz66_0
   try clear hcz66_1
   try clear hcz66_2
   try clear hcz66_4
   try clear hcz67_0
   try clear hcz67_1
   try clear hcz67_2
   try clear hcz67_4
   try clear hcz71_0
   try clear hcz71_1
   try clear hcz71_2
   try clear hcz71_4
   try clear hcz72_0
   try clear hcz72_1
   try clear hcz72_2
   try clear hcz72_4
   try clear hcz73_0
   try clear hcz73_1
   try clear hcz73_2
   try clear hcz73_4
   try clear hcz74_0
   try clear hcz74_1
   try clear hcz74_2
   try clear hcz74_4
   try clear hcz75_0
   try clear hcz75_1
   try clear hcz75_2
   try clear hcz75_4
   try clear hcz7_0
   try clear hcz7_1
   try clear hcz7_2
   try clear hcz7_4
   try clear p2
   try clear q3
   obtain ⟨kq, x74_14, rfl, HA, HJ14, BK252, HB⟩ := hcut
   cases kq with
   | zero => exact absurd HA.out (by simp [drawlotref24_Right.j1])
   | succ kj14 =>
    have H := HA.out
    clear HA
    simp only [drawlotref24_Right.j1] at H
    by_cases c76 : x74_14 = true
    ·subst c76
     have H1 : (some false) = some r := by rw [if_pos rfl] at H; exact H
     clear H
     have H := H1
     clear H1
     obtain rfl := Option.some.inj H
     go_wp2
     go_ret
     exact ⟨by first | rfl | (simp [errW_none, errW_some] <;> rfl) | (simp [*, errW_none, errW_some] <;> rfl), by repeat (first | (with_reducible first | exact HB.out | apply below_alloc | apply pw_below_drewN | apply below_drew1 | refine below_set ?_ GE252.out) | exact HB.out)⟩
    ·replace c76 := Bool.eq_false_iff.mpr c76
     subst c76
     have H1 : (if a0_1 ≥ 0 then (if a0_1 < 4294967296 then (if a0_4 ≥ 0 then (drawlotref24_Right.j2 kj14 (decide (a0_4 < 4294967296))) else (drawlotref24_Right.j2 kj14 false)) else (drawlotref24_Right.j2 kj14 false)) else (drawlotref24_Right.j2 kj14 false)) = some r := by rw [if_neg (show ¬ (false = true) by decide)] at H; exact H
     clear H
     have H := H1
     clear H1
     have HC77 := Aside0.mk H
     clear H
     go_upto_region 7 with (fail)
     go_cut [2] (fun v2 wc => ∃ (kq : Nat) (x2_76 : Bool), v2 = .bool x2_76 ∧ Aside0 (drawlotref24_Right.j2 kq x2_76 = some r) ∧ Aside0 (kq ≤ kj14) ∧ Aside0 (wc.heap[gb252]? = some (.cells (#[.int .i64 a0_0, .int .i64 a0_1, .int .u64 a0_2] ++ (Ar.cells .u8 32 a0_3 ++ #[.int .i64 a0_4])) 39 (0, 0))) ∧ Aside0 (Below w.heap.size w wc))
     case first =>
      have H := HC77.out
      clear HC77
      by_cases c78 : a0_1 ≥ 0
      ·rw [if_pos c78] at H
       have c78b0 : decide (0 ≤ a0_1) = true := decide_eq_true c78
       clear c78
       (first | rw [c78b0] | (simp only [i64_w, i32_w]; rw [c78b0]) | skip)
       by_cases c79 : a0_1 < 4294967296
       ·rw [if_pos c79] at H
        have c79b0 : decide (a0_1 < 4294967296) = true := decide_eq_true c79
        clear c79
        by_cases c80 : a0_4 ≥ 0
        ·rw [if_pos c80] at H
         have c80b0 : decide (0 ≤ a0_4) = true := decide_eq_true c80
         clear c80
         have H' := Aside0.mk H
         clear H
         have hcz81_0 : wc.cell? ⟨gb252, 0, none⟩ = some (.int .i64 a0_0) := (blk_cell BK252.out 0).trans (by first | (simp [Array.getElem?_append, Ar.cells_size]; done) | (simp [Array.getElem?_append, Array.getElem_push, Ar.cells_size]; done))
         have hcz81_1 : wc.cell? ⟨gb252, 1, none⟩ = some (.int .i64 a0_1) := (blk_cell BK252.out 1).trans (by first | (simp [Array.getElem?_append, Ar.cells_size]; done) | (simp [Array.getElem?_append, Array.getElem_push, Ar.cells_size]; done))
         have hcz81_2 : wc.cell? ⟨gb252, 2, none⟩ = some (.int .u64 a0_2) := (blk_cell BK252.out 2).trans (by first | (simp [Array.getElem?_append, Ar.cells_size]; done) | (simp [Array.getElem?_append, Array.getElem_push, Ar.cells_size]; done))
         have hcz81_4 : wc.cell? ⟨gb252, 35, none⟩ = some (.int .i64 a0_4) := (blk_cell BK252.out 35).trans (by first | (simp [Array.getElem?_append, Ar.cells_size]; done) | (simp [Array.getElem?_append, Array.getElem_push, Ar.cells_size]; done))
         go_wp2
         go_meet
         case rel => exact ⟨_, (decide (a0_4 < 4294967296)), (by first | rfl | (simp; done) | (simp [*]; done)), H', ⟨by have := HJ14.out; first | omega | exact Nat.le_refl _⟩, ⟨by (with_reducible repeat (first | refine blk_drewN ?_ _ | refine blk_drew ?_ | refine blk_alloc ?_ _)); exact BK252.out⟩, ⟨by repeat (first | (with_reducible first | exact HB.out | apply below_alloc | apply pw_below_drewN | apply below_drew1 | refine below_set ?_ GE252.out) | exact HB.out)⟩⟩
        ·rw [if_neg c80] at H
         have c80b0 : decide (0 ≤ a0_4) = false := decide_eq_false c80
         clear c80
         have H' := Aside0.mk H
         clear H
         have hcz82_0 : wc.cell? ⟨gb252, 0, none⟩ = some (.int .i64 a0_0) := (blk_cell BK252.out 0).trans (by first | (simp [Array.getElem?_append, Ar.cells_size]; done) | (simp [Array.getElem?_append, Array.getElem_push, Ar.cells_size]; done))
         have hcz82_1 : wc.cell? ⟨gb252, 1, none⟩ = some (.int .i64 a0_1) := (blk_cell BK252.out 1).trans (by first | (simp [Array.getElem?_append, Ar.cells_size]; done) | (simp [Array.getElem?_append, Array.getElem_push, Ar.cells_size]; done))
         have hcz82_2 : wc.cell? ⟨gb252, 2, none⟩ = some (.int .u64 a0_2) := (blk_cell BK252.out 2).trans (by first | (simp [Array.getElem?_append, Ar.cells_size]; done) | (simp [Array.getElem?_append, Array.getElem_push, Ar.cells_size]; done))
         have hcz82_4 : wc.cell? ⟨gb252, 35, none⟩ = some (.int .i64 a0_4) := (blk_cell BK252.out 35).trans (by first | (simp [Array.getElem?_append, Ar.cells_size]; done) | (simp [Array.getElem?_append, Array.getElem_push, Ar.cells_size]; done))
         go_wp2
         go_meet
         case rel => exact ⟨_, (false), (by first | rfl | (simp; done) | (simp [*]; done)), H', ⟨by have := HJ14.out; first | omega | exact Nat.le_refl _⟩, ⟨by (with_reducible repeat (first | refine blk_drewN ?_ _ | refine blk_drew ?_ | refine blk_alloc ?_ _)); exact BK252.out⟩, ⟨by repeat (first | (with_reducible first | exact HB.out | apply below_alloc | apply pw_below_drewN | apply below_drew1 | refine below_set ?_ GE252.out) | exact HB.out)⟩⟩
       ·rw [if_neg c79] at H
        have c79b0 : decide (a0_1 < 4294967296) = false := decide_eq_false c79
        clear c79
        have H' := Aside0.mk H
        clear H
        have hcz83_0 : wc.cell? ⟨gb252, 0, none⟩ = some (.int .i64 a0_0) := (blk_cell BK252.out 0).trans (by first | (simp [Array.getElem?_append, Ar.cells_size]; done) | (simp [Array.getElem?_append, Array.getElem_push, Ar.cells_size]; done))
        have hcz83_1 : wc.cell? ⟨gb252, 1, none⟩ = some (.int .i64 a0_1) := (blk_cell BK252.out 1).trans (by first | (simp [Array.getElem?_append, Ar.cells_size]; done) | (simp [Array.getElem?_append, Array.getElem_push, Ar.cells_size]; done))
        have hcz83_2 : wc.cell? ⟨gb252, 2, none⟩ = some (.int .u64 a0_2) := (blk_cell BK252.out 2).trans (by first | (simp [Array.getElem?_append, Ar.cells_size]; done) | (simp [Array.getElem?_append, Array.getElem_push, Ar.cells_size]; done))
        have hcz83_4 : wc.cell? ⟨gb252, 35, none⟩ = some (.int .i64 a0_4) := (blk_cell BK252.out 35).trans (by first | (simp [Array.getElem?_append, Ar.cells_size]; done) | (simp [Array.getElem?_append, Array.getElem_push, Ar.cells_size]; done))
        go_wp2
        go_meet
        case rel => exact ⟨_, (false), (by first | rfl | (simp; done) | (simp [*]; done)), H', ⟨by have := HJ14.out; first | omega | exact Nat.le_refl _⟩, ⟨by (with_reducible repeat (first | refine blk_drewN ?_ _ | refine blk_drew ?_ | refine blk_alloc ?_ _)); exact BK252.out⟩, ⟨by repeat (first | (with_reducible first | exact HB.out | apply below_alloc | apply pw_below_drewN | apply below_drew1 | refine below_set ?_ GE252.out) | exact HB.out)⟩⟩
      ·rw [if_neg c78] at H
       have c78b0 : decide (0 ≤ a0_1) = false := decide_eq_false c78
       clear c78
       (first | rw [c78b0] | (simp only [i64_w, i32_w]; rw [c78b0]) | skip)
       have H' := Aside0.mk H
       clear H
       have hcz84_0 : wc.cell? ⟨gb252, 0, none⟩ = some (.int .i64 a0_0) := (blk_cell BK252.out 0).trans (by first | (simp [Array.getElem?_append, Ar.cells_size]; done) | (simp [Array.getElem?_append, Array.getElem_push, Ar.cells_size]; done))
       have hcz84_1 : wc.cell? ⟨gb252, 1, none⟩ = some (.int .i64 a0_1) := (blk_cell BK252.out 1).trans (by first | (simp [Array.getElem?_append, Ar.cells_size]; done) | (simp [Array.getElem?_append, Array.getElem_push, Ar.cells_size]; done))
       have hcz84_2 : wc.cell? ⟨gb252, 2, none⟩ = some (.int .u64 a0_2) := (blk_cell BK252.out 2).trans (by first | (simp [Array.getElem?_append, Ar.cells_size]; done) | (simp [Array.getElem?_append, Array.getElem_push, Ar.cells_size]; done))
       have hcz84_4 : wc.cell? ⟨gb252, 35, none⟩ = some (.int .i64 a0_4) := (blk_cell BK252.out 35).trans (by first | (simp [Array.getElem?_append, Ar.cells_size]; done) | (simp [Array.getElem?_append, Array.getElem_push, Ar.cells_size]; done))
       go_wp2
       go_meet
       case rel => exact ⟨_, (false), (by first | rfl | (simp; done) | (simp [*]; done)), H', ⟨by have := HJ14.out; first | omega | exact Nat.le_refl _⟩, ⟨by (with_reducible repeat (first | refine blk_drewN ?_ _ | refine blk_drew ?_ | refine blk_alloc ?_ _)); exact BK252.out⟩, ⟨by repeat (first | (with_reducible first | exact HB.out | apply below_alloc | apply pw_below_drewN | apply below_drew1 | refine below_set ?_ GE252.out) | exact HB.out)⟩⟩
     case rest =>
      clear HC77
      try clear c1
      try clear c2
      try clear p2
      try clear c3
      try clear c3b0
      try clear c3b1
      try clear q3
      try clear c4
      try clear c5
      try clear c6
      try clear c7
      try clear c8
      try clear c8b0
      try clear c9
      try clear c9b0
      try clear c10
      try clear c10b0
      try clear c15
      try clear c17
      try clear c19
      try clear c20
      try clear c21
      try clear c23
      try clear c25
      try clear c26
      try clear c26b0
      try clear c26b1
      try clear c27
      try clear c28
      try clear c32
      try clear c32b0
      try clear c32b1
      try clear c34
      try clear c36
      try clear c39
      try clear c39b0
      try clear c39b1
      try clear q39
      try clear c41
      try clear c46
      try clear c46b0
      try clear c46b1
      try clear c48
      try clear c50
      try clear c52
      try clear c55
      try clear c55b0
      try clear c55b1
      try clear c57
      try clear c61
      try clear c61b0
      try clear c61b1
      try clear c63
      try clear c65
      try clear c68
      try clear c68b0
      try clear c68b1
      try clear c70
      try clear c76
      try clear c78
      try clear c78b0
      try clear c79
      try clear c79b0
      try clear c80
      try clear c80b0
      try clear hcz11_0
      try clear hcz11_1
      try clear hcz11_2
      try clear hcz11_4
      try clear hcz12_0
      try clear hcz12_1
      try clear hcz12_2
      try clear hcz12_4
      try clear hcz13_0
      try clear hcz13_1
      try clear hcz13_2
      try clear hcz13_4
      try clear hcz14_0
      try clear hcz14_1
      try clear hcz14_2
      try clear hcz14_4
      try clear hcz17_0
      try clear hcz17_1
      try clear hcz17_2
      try clear hcz17_4
      try clear hcz29_0
      try clear hcz29_1
      try clear hcz29_2
      try clear hcz29_4
      try clear hcz30_0
      try clear hcz30_1
      try clear hcz30_2
      try clear hcz30_4
      try clear hcz31_0
      try clear hcz31_1
      try clear hcz31_2
      try clear hcz31_4
      try clear hcz37_0
      try clear hcz37_1
      try clear hcz37_2
      try clear hcz37_4
      try clear hcz38_0
      try clear hcz38_1
      try clear hcz38_2
      try clear hcz38_4
      try clear hcz42_0
      try clear hcz42_1
      try clear hcz42_2
      try clear hcz42_4
      try clear hcz43_0
      try clear hcz43_1
      try clear hcz43_2
      try clear hcz43_4
      try clear hcz44_0
      try clear hcz44_1
      try clear hcz44_2
      try clear hcz44_4
      try clear hcz45_0
      try clear hcz45_1
      try clear hcz45_2
      try clear hcz45_4
      try clear hcz53_0
      try clear hcz53_1
      try clear hcz53_2
      try clear hcz53_4
      try clear hcz54_0
      try clear hcz54_1
      try clear hcz54_2
      try clear hcz54_4
      try clear hcz58_0
      try clear hcz58_1
      try clear hcz58_2
      try clear hcz58_4
      try clear hcz59_0
      try clear hcz59_1
      try clear hcz59_2
      try clear hcz59_4
      try clear hcz60_0
      try clear hcz60_1
      try clear hcz60_2
      try clear hcz60_4
      try clear hcz66_0
      try clear hcz66_1
      try clear hcz66_2
      try clear hcz66_4
      try clear hcz67_0
      try clear hcz67_1
      try clear hcz67_2
      try clear hcz67_4
      try clear hcz71_0
      try clear hcz71_1
      try clear hcz71_2
      try clear hcz71_4
      try clear hcz72_0
      try clear hcz72_1
      try clear hcz72_2
      try clear hcz72_4
      try clear hcz73_0
      try clear hcz73_1
      try clear hcz73_2
      try clear hcz73_4
      try clear hcz74_0
      try clear hcz74_1
      try clear hcz74_2
      try clear hcz74_4
      try clear hcz75_0
      try clear hcz75_1
      try clear hcz75_2
      try clear hcz75_4
      try clear hcz7_0
      try clear hcz7_1
      try clear hcz7_2
      try clear hcz7_4
      try clear hcz81_0
      try clear hcz81_1
      try clear hcz81_2
      try clear hcz81_4
      try clear hcz82_0
      try clear hcz82_1
      try clear hcz82_2
      try clear hcz82_4
      try clear hcz83_0
      try clear hcz83_1
      try clear hcz83_2
      try clear hcz83_4
      try clear hcz84_0
      try clear hcz84_1
      try clear hcz84_2
      try clear hcz84_4
      try clear p2
      try clear q3
      try clear q39
      obtain ⟨kq, x2_76, rfl, HA, HJ76, BK252, HB⟩ := hcut
      cases kq with
      | zero => exact absurd HA.out (by simp [drawlotref24_Right.j2])
      | succ kj76 =>
       have H := HA.out
       clear HA
       simp only [drawlotref24_Right.j2] at H
       obtain rfl := Option.some.inj H
       go_wp2
       go_ret
       exact ⟨by first | rfl | (simp [errW_none, errW_some] <;> rfl) | (simp [*, errW_none, errW_some] <;> rfl), by repeat (first | (with_reducible first | exact HB.out | apply below_alloc | apply pw_below_drewN | apply below_drew1 | refine below_set ?_ GE252.out) | exact HB.out)⟩

end Go.Proofs.Ytkbpdnhbmceajaa.PQ
