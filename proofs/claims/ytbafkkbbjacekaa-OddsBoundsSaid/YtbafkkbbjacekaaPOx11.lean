/- Written by xprint.py, this session's own driver, for the seat Ytbafkkbbjacekaa: contracts of Go functions, each saying that a call answers what a plain Lean function of the same name says, and, in a text named Law, the row of a law: its Go function answers true for every input. No conditions. -/
import Derived.Test.YtbafkkbbjacekaaPOx0
import Derived.Test.YtbafkkbbjacekaaPOx1
import Derived.Test.YtbafkkbbjacekaaPOx3
import Derived.Test.YtbafkkbbjacekaaPOx4
import Derived.Test.YtbafkkbbjacekaaPOx5
import Derived.Test.YtbafkkbbjacekaaPOx6
import Derived.Test.YtbafkkbbjacekaaPOx8
import Derived.Test.YtbafkkbbjacekaaPOx9
namespace Go.Proofs.Ytbafkkbbjacekaa.PO
open Go.RowKit Go.Proofs.YtbafkkbbjacekaaW.PrintWords Go.Proofs.YtbafkkbbjacekaaW.PrintLast Go.Proofs.YtbafkkbbjacekaaW.PrintMore
attribute [local go_sem] max2_int min2_int max_two min_two max_three min_three max_four min_four   -- for this text's walks alone
set_option linter.unusedVariables false
set_option linter.unusedSimpArgs false

/-! ### drawlotlaw16_OddsBounds: function 8 -/
def drawlotlaw16_OddsBounds.f (k : Nat) (a0 : Int) (a1 : Int) (a2 : Int) : Option (Bool) := (drawlotlaw16_alive.f k).bind fun t504 => (if t504 = true then ((odds_All.f k a1 a2).bind fun bt505 => ((drawlotref16_All.f k a1 a2).bind fun bt509 => ((odds_Lost.f k a1 a2).bind fun bt513 => ((drawlotref16_Lost.f k a1 a2).bind fun bt517 => ((odds_Each.f k a1 a2).bind fun bt521 => ((drawlotref16_Each.f k a1 a2).bind fun bt525 => ((odds_Share.f k a0 a1 a2).bind fun bt529 => ((drawlotref16_Share.f k a0 a1 a2).bind fun bt533 => ((odds_Bits.f k a1 a2).bind fun bt537 => ((drawlotref16_Bits.f k a1 a2).bind fun bt539 => ((drawlotref10_Same.f k bt505.1 bt509.1).bind fun t541 => (if t541 = true then (if bt505.2 = bt509.2 then ((drawlotref10_Same.f k bt513.1 bt517.1).bind fun t542 => (if t542 = true then (if bt513.2 = bt517.2 then ((drawlotref10_Same.f k bt521.1 bt525.1).bind fun t543 => (if t543 = true then (if bt521.2 = bt525.2 then ((drawlotref10_Same.f k bt529.1 bt533.1).bind fun t544 => (if t544 = true then (if bt529.2 = bt533.2 then (if bt537.1 = bt539.1 then (some (bt537.2 == bt539.2)) else (none)) else (none)) else (none))) else (none)) else (none))) else (none)) else (none))) else (none)) else (none))))))))))))) else (none))
theorem drawlotlaw16_OddsBounds.mono : ∀ a0 a1 a2 k, LeO (drawlotlaw16_OddsBounds.f k a0 a1 a2) (drawlotlaw16_OddsBounds.f (k + 1) a0 a1 a2) := by
 intro a0 a1 a2 k
 unfold drawlotlaw16_OddsBounds.f
 repeat' first
   | (with_reducible exact drawlotlaw16_alive.mono _)
   | (with_reducible exact drawlotref10_Same.mono _ _ _)
   | (with_reducible exact drawlotref16_All.mono _ _ _)
   | (with_reducible exact drawlotref16_Bits.mono _ _ _)
   | (with_reducible exact drawlotref16_Each.mono _ _ _)
   | (with_reducible exact drawlotref16_Lost.mono _ _ _)
   | (with_reducible exact drawlotref16_Share.mono _ _ _ _)
   | (with_reducible exact odds_All.mono _ _ _)
   | (with_reducible exact odds_Bits.mono _ _ _)
   | (with_reducible exact odds_Each.mono _ _ _)
   | (with_reducible exact odds_Lost.mono _ _ _)
   | (with_reducible exact odds_Share.mono _ _ _ _)
   | (with_reducible exact LeO.refl _)
   | (with_reducible exact LeO.none _)
   | (with_reducible refine LeO.ite ?_ ?_)
   | (with_reducible refine LeO.bind ?_ (fun _ => ?_))
   | exact drawlotlaw16_alive.mono _
   | exact drawlotref10_Same.mono _ _ _
   | exact drawlotref16_All.mono _ _ _
   | exact drawlotref16_Bits.mono _ _ _
   | exact drawlotref16_Each.mono _ _ _
   | exact drawlotref16_Lost.mono _ _ _
   | exact drawlotref16_Share.mono _ _ _ _
   | exact odds_All.mono _ _ _
   | exact odds_Bits.mono _ _ _
   | exact odds_Each.mono _ _ _
   | exact odds_Lost.mono _ _ _
   | exact odds_Share.mono _ _ _ _
   | exact LeO.none _
   | refine LeO.ite ?_ ?_
   | refine LeO.bind ?_ (fun _ => ?_)
set_option maxHeartbeats 8000000 in
set_option maxRecDepth 100000 in
theorem drawlotlaw16_OddsBounds.calls (k : Nat) (a0 : Int) (a1 : Int) (a2 : Int) (r : Bool) (w : World) (h : drawlotlaw16_OddsBounds.f k a0 a1 a2 = some r) :
  Calls Try.prog 8 #[.int .u64 a0, .int .u64 a1, .int .i64 a2] w fun e w' => e = .returned (.bool r) ∧ Below w.heap.size w w' := by
 have HB := Aside0.mk (Below.refl w.heap.size w)
 have H : ((drawlotlaw16_alive.f k).bind fun t504 => (if t504 = true then ((odds_All.f k a1 a2).bind fun bt505 => ((drawlotref16_All.f k a1 a2).bind fun bt509 => ((odds_Lost.f k a1 a2).bind fun bt513 => ((drawlotref16_Lost.f k a1 a2).bind fun bt517 => ((odds_Each.f k a1 a2).bind fun bt521 => ((drawlotref16_Each.f k a1 a2).bind fun bt525 => ((odds_Share.f k a0 a1 a2).bind fun bt529 => ((drawlotref16_Share.f k a0 a1 a2).bind fun bt533 => ((odds_Bits.f k a1 a2).bind fun bt537 => ((drawlotref16_Bits.f k a1 a2).bind fun bt539 => ((drawlotref10_Same.f k bt505.1 bt509.1).bind fun t541 => (if t541 = true then (if bt505.2 = bt509.2 then ((drawlotref10_Same.f k bt513.1 bt517.1).bind fun t542 => (if t542 = true then (if bt513.2 = bt517.2 then ((drawlotref10_Same.f k bt521.1 bt525.1).bind fun t543 => (if t543 = true then (if bt521.2 = bt525.2 then ((drawlotref10_Same.f k bt529.1 bt533.1).bind fun t544 => (if t544 = true then (if bt529.2 = bt533.2 then (if bt537.1 = bt539.1 then (some (bt537.2 == bt539.2)) else (none)) else (none)) else (none))) else (none)) else (none))) else (none)) else (none))) else (none)) else (none))))))))))))) else (none))) = some r := h
 clear h
 replace H := Option.bind_eq_some_iff.mp H
 obtain ⟨t504, A40, H⟩ := H
 replace H : (if t504 = true then ((odds_All.f k a1 a2).bind fun bt505 => ((drawlotref16_All.f k a1 a2).bind fun bt509 => ((odds_Lost.f k a1 a2).bind fun bt513 => ((drawlotref16_Lost.f k a1 a2).bind fun bt517 => ((odds_Each.f k a1 a2).bind fun bt521 => ((drawlotref16_Each.f k a1 a2).bind fun bt525 => ((odds_Share.f k a0 a1 a2).bind fun bt529 => ((drawlotref16_Share.f k a0 a1 a2).bind fun bt533 => ((odds_Bits.f k a1 a2).bind fun bt537 => ((drawlotref16_Bits.f k a1 a2).bind fun bt539 => ((drawlotref10_Same.f k bt505.1 bt509.1).bind fun t541 => (if t541 = true then (if bt505.2 = bt509.2 then ((drawlotref10_Same.f k bt513.1 bt517.1).bind fun t542 => (if t542 = true then (if bt513.2 = bt517.2 then ((drawlotref10_Same.f k bt521.1 bt525.1).bind fun t543 => (if t543 = true then (if bt521.2 = bt525.2 then ((drawlotref10_Same.f k bt529.1 bt533.1).bind fun t544 => (if t544 = true then (if bt529.2 = bt533.2 then (if bt537.1 = bt539.1 then (some (bt537.2 == bt539.2)) else (none)) else (none)) else (none))) else (none)) else (none))) else (none)) else (none))) else (none)) else (none))))))))))))) else (none)) = some r := H
 have A4 := Aside0.mk A40
 clear A40
 by_cases c5 : t504 = true
 ·subst c5
  have H1 : ((odds_All.f k a1 a2).bind fun bt505 => ((drawlotref16_All.f k a1 a2).bind fun bt509 => ((odds_Lost.f k a1 a2).bind fun bt513 => ((drawlotref16_Lost.f k a1 a2).bind fun bt517 => ((odds_Each.f k a1 a2).bind fun bt521 => ((drawlotref16_Each.f k a1 a2).bind fun bt525 => ((odds_Share.f k a0 a1 a2).bind fun bt529 => ((drawlotref16_Share.f k a0 a1 a2).bind fun bt533 => ((odds_Bits.f k a1 a2).bind fun bt537 => ((drawlotref16_Bits.f k a1 a2).bind fun bt539 => ((drawlotref10_Same.f k bt505.1 bt509.1).bind fun t541 => (if t541 = true then (if bt505.2 = bt509.2 then ((drawlotref10_Same.f k bt513.1 bt517.1).bind fun t542 => (if t542 = true then (if bt513.2 = bt517.2 then ((drawlotref10_Same.f k bt521.1 bt525.1).bind fun t543 => (if t543 = true then (if bt521.2 = bt525.2 then ((drawlotref10_Same.f k bt529.1 bt533.1).bind fun t544 => (if t544 = true then (if bt529.2 = bt533.2 then (if bt537.1 = bt539.1 then (some (bt537.2 == bt539.2)) else (none)) else (none)) else (none))) else (none)) else (none))) else (none)) else (none))) else (none)) else (none))))))))))))) = some r := by rw [if_pos rfl] at H; exact H
  clear H
  have H := H1
  clear H1
  replace H := Option.bind_eq_some_iff.mp H
  obtain ⟨⟨t505, t506⟩, A60, H⟩ := H
  replace H : ((drawlotref16_All.f k a1 a2).bind fun bt509 => ((odds_Lost.f k a1 a2).bind fun bt513 => ((drawlotref16_Lost.f k a1 a2).bind fun bt517 => ((odds_Each.f k a1 a2).bind fun bt521 => ((drawlotref16_Each.f k a1 a2).bind fun bt525 => ((odds_Share.f k a0 a1 a2).bind fun bt529 => ((drawlotref16_Share.f k a0 a1 a2).bind fun bt533 => ((odds_Bits.f k a1 a2).bind fun bt537 => ((drawlotref16_Bits.f k a1 a2).bind fun bt539 => ((drawlotref10_Same.f k t505 bt509.1).bind fun t541 => (if t541 = true then (if t506 = bt509.2 then ((drawlotref10_Same.f k bt513.1 bt517.1).bind fun t542 => (if t542 = true then (if bt513.2 = bt517.2 then ((drawlotref10_Same.f k bt521.1 bt525.1).bind fun t543 => (if t543 = true then (if bt521.2 = bt525.2 then ((drawlotref10_Same.f k bt529.1 bt533.1).bind fun t544 => (if t544 = true then (if bt529.2 = bt533.2 then (if bt537.1 = bt539.1 then (some (bt537.2 == bt539.2)) else (none)) else (none)) else (none))) else (none)) else (none))) else (none)) else (none))) else (none)) else (none)))))))))))) = some r := H
  have A6 := Aside0.mk A60
  clear A60
  replace H := Option.bind_eq_some_iff.mp H
  obtain ⟨⟨t509, t510⟩, A70, H⟩ := H
  replace H : ((odds_Lost.f k a1 a2).bind fun bt513 => ((drawlotref16_Lost.f k a1 a2).bind fun bt517 => ((odds_Each.f k a1 a2).bind fun bt521 => ((drawlotref16_Each.f k a1 a2).bind fun bt525 => ((odds_Share.f k a0 a1 a2).bind fun bt529 => ((drawlotref16_Share.f k a0 a1 a2).bind fun bt533 => ((odds_Bits.f k a1 a2).bind fun bt537 => ((drawlotref16_Bits.f k a1 a2).bind fun bt539 => ((drawlotref10_Same.f k t505 t509).bind fun t541 => (if t541 = true then (if t506 = t510 then ((drawlotref10_Same.f k bt513.1 bt517.1).bind fun t542 => (if t542 = true then (if bt513.2 = bt517.2 then ((drawlotref10_Same.f k bt521.1 bt525.1).bind fun t543 => (if t543 = true then (if bt521.2 = bt525.2 then ((drawlotref10_Same.f k bt529.1 bt533.1).bind fun t544 => (if t544 = true then (if bt529.2 = bt533.2 then (if bt537.1 = bt539.1 then (some (bt537.2 == bt539.2)) else (none)) else (none)) else (none))) else (none)) else (none))) else (none)) else (none))) else (none)) else (none))))))))))) = some r := H
  have A7 := Aside0.mk A70
  clear A70
  replace H := Option.bind_eq_some_iff.mp H
  obtain ⟨⟨t513, t516⟩, A80, H⟩ := H
  replace H : ((drawlotref16_Lost.f k a1 a2).bind fun bt517 => ((odds_Each.f k a1 a2).bind fun bt521 => ((drawlotref16_Each.f k a1 a2).bind fun bt525 => ((odds_Share.f k a0 a1 a2).bind fun bt529 => ((drawlotref16_Share.f k a0 a1 a2).bind fun bt533 => ((odds_Bits.f k a1 a2).bind fun bt537 => ((drawlotref16_Bits.f k a1 a2).bind fun bt539 => ((drawlotref10_Same.f k t505 t509).bind fun t541 => (if t541 = true then (if t506 = t510 then ((drawlotref10_Same.f k t513 bt517.1).bind fun t542 => (if t542 = true then (if t516 = bt517.2 then ((drawlotref10_Same.f k bt521.1 bt525.1).bind fun t543 => (if t543 = true then (if bt521.2 = bt525.2 then ((drawlotref10_Same.f k bt529.1 bt533.1).bind fun t544 => (if t544 = true then (if bt529.2 = bt533.2 then (if bt537.1 = bt539.1 then (some (bt537.2 == bt539.2)) else (none)) else (none)) else (none))) else (none)) else (none))) else (none)) else (none))) else (none)) else (none)))))))))) = some r := H
  have A8 := Aside0.mk A80
  clear A80
  replace H := Option.bind_eq_some_iff.mp H
  obtain ⟨⟨t517, t520⟩, A90, H⟩ := H
  replace H : ((odds_Each.f k a1 a2).bind fun bt521 => ((drawlotref16_Each.f k a1 a2).bind fun bt525 => ((odds_Share.f k a0 a1 a2).bind fun bt529 => ((drawlotref16_Share.f k a0 a1 a2).bind fun bt533 => ((odds_Bits.f k a1 a2).bind fun bt537 => ((drawlotref16_Bits.f k a1 a2).bind fun bt539 => ((drawlotref10_Same.f k t505 t509).bind fun t541 => (if t541 = true then (if t506 = t510 then ((drawlotref10_Same.f k t513 t517).bind fun t542 => (if t542 = true then (if t516 = t520 then ((drawlotref10_Same.f k bt521.1 bt525.1).bind fun t543 => (if t543 = true then (if bt521.2 = bt525.2 then ((drawlotref10_Same.f k bt529.1 bt533.1).bind fun t544 => (if t544 = true then (if bt529.2 = bt533.2 then (if bt537.1 = bt539.1 then (some (bt537.2 == bt539.2)) else (none)) else (none)) else (none))) else (none)) else (none))) else (none)) else (none))) else (none)) else (none))))))))) = some r := H
  have A9 := Aside0.mk A90
  clear A90
  replace H := Option.bind_eq_some_iff.mp H
  obtain ⟨⟨t521, t524⟩, A100, H⟩ := H
  replace H : ((drawlotref16_Each.f k a1 a2).bind fun bt525 => ((odds_Share.f k a0 a1 a2).bind fun bt529 => ((drawlotref16_Share.f k a0 a1 a2).bind fun bt533 => ((odds_Bits.f k a1 a2).bind fun bt537 => ((drawlotref16_Bits.f k a1 a2).bind fun bt539 => ((drawlotref10_Same.f k t505 t509).bind fun t541 => (if t541 = true then (if t506 = t510 then ((drawlotref10_Same.f k t513 t517).bind fun t542 => (if t542 = true then (if t516 = t520 then ((drawlotref10_Same.f k t521 bt525.1).bind fun t543 => (if t543 = true then (if t524 = bt525.2 then ((drawlotref10_Same.f k bt529.1 bt533.1).bind fun t544 => (if t544 = true then (if bt529.2 = bt533.2 then (if bt537.1 = bt539.1 then (some (bt537.2 == bt539.2)) else (none)) else (none)) else (none))) else (none)) else (none))) else (none)) else (none))) else (none)) else (none)))))))) = some r := H
  have A10 := Aside0.mk A100
  clear A100
  replace H := Option.bind_eq_some_iff.mp H
  obtain ⟨⟨t525, t528⟩, A110, H⟩ := H
  replace H : ((odds_Share.f k a0 a1 a2).bind fun bt529 => ((drawlotref16_Share.f k a0 a1 a2).bind fun bt533 => ((odds_Bits.f k a1 a2).bind fun bt537 => ((drawlotref16_Bits.f k a1 a2).bind fun bt539 => ((drawlotref10_Same.f k t505 t509).bind fun t541 => (if t541 = true then (if t506 = t510 then ((drawlotref10_Same.f k t513 t517).bind fun t542 => (if t542 = true then (if t516 = t520 then ((drawlotref10_Same.f k t521 t525).bind fun t543 => (if t543 = true then (if t524 = t528 then ((drawlotref10_Same.f k bt529.1 bt533.1).bind fun t544 => (if t544 = true then (if bt529.2 = bt533.2 then (if bt537.1 = bt539.1 then (some (bt537.2 == bt539.2)) else (none)) else (none)) else (none))) else (none)) else (none))) else (none)) else (none))) else (none)) else (none))))))) = some r := H
  have A11 := Aside0.mk A110
  clear A110
  replace H := Option.bind_eq_some_iff.mp H
  obtain ⟨⟨t529, t532⟩, A120, H⟩ := H
  replace H : ((drawlotref16_Share.f k a0 a1 a2).bind fun bt533 => ((odds_Bits.f k a1 a2).bind fun bt537 => ((drawlotref16_Bits.f k a1 a2).bind fun bt539 => ((drawlotref10_Same.f k t505 t509).bind fun t541 => (if t541 = true then (if t506 = t510 then ((drawlotref10_Same.f k t513 t517).bind fun t542 => (if t542 = true then (if t516 = t520 then ((drawlotref10_Same.f k t521 t525).bind fun t543 => (if t543 = true then (if t524 = t528 then ((drawlotref10_Same.f k t529 bt533.1).bind fun t544 => (if t544 = true then (if t532 = bt533.2 then (if bt537.1 = bt539.1 then (some (bt537.2 == bt539.2)) else (none)) else (none)) else (none))) else (none)) else (none))) else (none)) else (none))) else (none)) else (none)))))) = some r := H
  have A12 := Aside0.mk A120
  clear A120
  replace H := Option.bind_eq_some_iff.mp H
  obtain ⟨⟨t533, t536⟩, A130, H⟩ := H
  replace H : ((odds_Bits.f k a1 a2).bind fun bt537 => ((drawlotref16_Bits.f k a1 a2).bind fun bt539 => ((drawlotref10_Same.f k t505 t509).bind fun t541 => (if t541 = true then (if t506 = t510 then ((drawlotref10_Same.f k t513 t517).bind fun t542 => (if t542 = true then (if t516 = t520 then ((drawlotref10_Same.f k t521 t525).bind fun t543 => (if t543 = true then (if t524 = t528 then ((drawlotref10_Same.f k t529 t533).bind fun t544 => (if t544 = true then (if t532 = t536 then (if bt537.1 = bt539.1 then (some (bt537.2 == bt539.2)) else (none)) else (none)) else (none))) else (none)) else (none))) else (none)) else (none))) else (none)) else (none))))) = some r := H
  have A13 := Aside0.mk A130
  clear A130
  replace H := Option.bind_eq_some_iff.mp H
  obtain ⟨⟨t537, t538⟩, A140, H⟩ := H
  replace H : ((drawlotref16_Bits.f k a1 a2).bind fun bt539 => ((drawlotref10_Same.f k t505 t509).bind fun t541 => (if t541 = true then (if t506 = t510 then ((drawlotref10_Same.f k t513 t517).bind fun t542 => (if t542 = true then (if t516 = t520 then ((drawlotref10_Same.f k t521 t525).bind fun t543 => (if t543 = true then (if t524 = t528 then ((drawlotref10_Same.f k t529 t533).bind fun t544 => (if t544 = true then (if t532 = t536 then (if t537 = bt539.1 then (some (t538 == bt539.2)) else (none)) else (none)) else (none))) else (none)) else (none))) else (none)) else (none))) else (none)) else (none)))) = some r := H
  have A14 := Aside0.mk A140
  clear A140
  replace H := Option.bind_eq_some_iff.mp H
  obtain ⟨⟨t539, t540⟩, A150, H⟩ := H
  replace H : ((drawlotref10_Same.f k t505 t509).bind fun t541 => (if t541 = true then (if t506 = t510 then ((drawlotref10_Same.f k t513 t517).bind fun t542 => (if t542 = true then (if t516 = t520 then ((drawlotref10_Same.f k t521 t525).bind fun t543 => (if t543 = true then (if t524 = t528 then ((drawlotref10_Same.f k t529 t533).bind fun t544 => (if t544 = true then (if t532 = t536 then (if t537 = t539 then (some (t538 == t540)) else (none)) else (none)) else (none))) else (none)) else (none))) else (none)) else (none))) else (none)) else (none))) = some r := H
  have A15 := Aside0.mk A150
  clear A150
  replace H := Option.bind_eq_some_iff.mp H
  obtain ⟨t541, A160, H⟩ := H
  replace H : (if t541 = true then (if t506 = t510 then ((drawlotref10_Same.f k t513 t517).bind fun t542 => (if t542 = true then (if t516 = t520 then ((drawlotref10_Same.f k t521 t525).bind fun t543 => (if t543 = true then (if t524 = t528 then ((drawlotref10_Same.f k t529 t533).bind fun t544 => (if t544 = true then (if t532 = t536 then (if t537 = t539 then (some (t538 == t540)) else (none)) else (none)) else (none))) else (none)) else (none))) else (none)) else (none))) else (none)) else (none)) = some r := H
  have A16 := Aside0.mk A160
  clear A160
  by_cases c17 : t541 = true
  ·subst c17
   have H1 : (if t506 = t510 then ((drawlotref10_Same.f k t513 t517).bind fun t542 => (if t542 = true then (if t516 = t520 then ((drawlotref10_Same.f k t521 t525).bind fun t543 => (if t543 = true then (if t524 = t528 then ((drawlotref10_Same.f k t529 t533).bind fun t544 => (if t544 = true then (if t532 = t536 then (if t537 = t539 then (some (t538 == t540)) else (none)) else (none)) else (none))) else (none)) else (none))) else (none)) else (none))) else (none)) = some r := by rw [if_pos rfl] at H; exact H
   clear H
   have H := H1
   clear H1
   by_cases c18 : t506 = t510
   ·rw [if_pos c18] at H
    have c18b0 : (t506 == t510) = true := beq_iff_eq.mpr c18
    have c18b1 : (t506 != t510) = false := bne_eq_false_iff_eq.mpr c18
    clear c18
    replace H := Option.bind_eq_some_iff.mp H
    obtain ⟨t542, A190, H⟩ := H
    replace H : (if t542 = true then (if t516 = t520 then ((drawlotref10_Same.f k t521 t525).bind fun t543 => (if t543 = true then (if t524 = t528 then ((drawlotref10_Same.f k t529 t533).bind fun t544 => (if t544 = true then (if t532 = t536 then (if t537 = t539 then (some (t538 == t540)) else (none)) else (none)) else (none))) else (none)) else (none))) else (none)) else (none)) = some r := H
    have A19 := Aside0.mk A190
    clear A190
    by_cases c20 : t542 = true
    ·subst c20
     have H1 : (if t516 = t520 then ((drawlotref10_Same.f k t521 t525).bind fun t543 => (if t543 = true then (if t524 = t528 then ((drawlotref10_Same.f k t529 t533).bind fun t544 => (if t544 = true then (if t532 = t536 then (if t537 = t539 then (some (t538 == t540)) else (none)) else (none)) else (none))) else (none)) else (none))) else (none)) = some r := by rw [if_pos rfl] at H; exact H
     clear H
     have H := H1
     clear H1
     by_cases c21 : t516 = t520
     ·rw [if_pos c21] at H
      have c21b0 : (t516 == t520) = true := beq_iff_eq.mpr c21
      have c21b1 : (t516 != t520) = false := bne_eq_false_iff_eq.mpr c21
      clear c21
      replace H := Option.bind_eq_some_iff.mp H
      obtain ⟨t543, A220, H⟩ := H
      replace H : (if t543 = true then (if t524 = t528 then ((drawlotref10_Same.f k t529 t533).bind fun t544 => (if t544 = true then (if t532 = t536 then (if t537 = t539 then (some (t538 == t540)) else (none)) else (none)) else (none))) else (none)) else (none)) = some r := H
      have A22 := Aside0.mk A220
      clear A220
      by_cases c23 : t543 = true
      ·subst c23
       have H1 : (if t524 = t528 then ((drawlotref10_Same.f k t529 t533).bind fun t544 => (if t544 = true then (if t532 = t536 then (if t537 = t539 then (some (t538 == t540)) else (none)) else (none)) else (none))) else (none)) = some r := by rw [if_pos rfl] at H; exact H
       clear H
       have H := H1
       clear H1
       by_cases c24 : t524 = t528
       ·rw [if_pos c24] at H
        have c24b0 : (t524 == t528) = true := beq_iff_eq.mpr c24
        have c24b1 : (t524 != t528) = false := bne_eq_false_iff_eq.mpr c24
        clear c24
        replace H := Option.bind_eq_some_iff.mp H
        obtain ⟨t544, A250, H⟩ := H
        replace H : (if t544 = true then (if t532 = t536 then (if t537 = t539 then (some (t538 == t540)) else (none)) else (none)) else (none)) = some r := H
        have A25 := Aside0.mk A250
        clear A250
        by_cases c26 : t544 = true
        ·subst c26
         have H1 : (if t532 = t536 then (if t537 = t539 then (some (t538 == t540)) else (none)) else (none)) = some r := by rw [if_pos rfl] at H; exact H
         clear H
         have H := H1
         clear H1
         by_cases c27 : t532 = t536
         ·rw [if_pos c27] at H
          have c27b0 : (t532 == t536) = true := beq_iff_eq.mpr c27
          have c27b1 : (t532 != t536) = false := bne_eq_false_iff_eq.mpr c27
          clear c27
          by_cases c28 : t537 = t539
          ·rw [if_pos c28] at H
           have c28b0 : (t537 == t539) = true := beq_iff_eq.mpr c28
           have c28b1 : (t537 != t539) = false := bne_eq_false_iff_eq.mpr c28
           clear c28
           obtain rfl := Option.some.inj H
           go_enter Try.func8, Try.ntmps8
           try simp only [List.append]
           go_wp2_with (first | ((with_reducible refine gate_callee (f := 29) rfl ?_); refine goesL_ (some 27) rfl rfl Try.func29 (by kernel_rfl) rfl #[] rfl (by (try simp only [List.map_toArray, List.map_cons, List.map_nil]); first | done | rfl | (simp only [List.length_drop, List.length_take]; rfl)) ?_; (with_reducible refine (drawlotlaw16_alive.calls k  true _ A4.out).mono ?_); rintro e w29 ⟨rfl, hb⟩; refine ⟨_, rfl, ?_⟩; have n0_ := Aside0.mk (below_step (by repeat (first | (with_reducible first | exact HB.out | apply below_alloc | apply pw_below_drewN | apply below_drew1) | exact HB.out)) hb); clear HB; have HB := n0_; clear n0_; (try clear hb); (try clear hb2); (try clear hk); (try clear hi)) | ((with_reducible refine gate_callee (f := 30) rfl ?_); refine goesL_ (some 32) rfl rfl Try.func30 (by kernel_rfl) rfl #[.int .u64 a1, .int .i64 a2] rfl (by (try simp only [List.map_toArray, List.map_cons, List.map_nil]); first | done | rfl | (simp only [List.length_drop, List.length_take]; rfl)) ?_; (with_reducible refine (odds_All.calls k a1 a2 t505 t506 _ A6.out).mono ?_); rintro e w30 ⟨v507, rfl, ho0, hb⟩; refine ⟨_, rfl, ?_⟩; have n0_ := Aside0.mk (Kd.R_lower ho0 (below_size (by repeat (first | (with_reducible first | exact HB.out | apply below_alloc | apply pw_below_drewN | apply below_drew1) | exact HB.out)))); have n1_ := Aside0.mk (below_step (by repeat (first | (with_reducible first | exact HB.out | apply below_alloc | apply pw_below_drewN | apply below_drew1) | exact HB.out)) hb); clear HB; have HO508 := n0_; have HB := n1_; clear n0_ n1_; (try clear hb); (try clear hb2); (try clear hk); (try clear hi); (try clear ho0)) | ((with_reducible refine gate_callee (f := 31) rfl ?_); refine goesL_ (some 38) rfl rfl Try.func31 (by kernel_rfl) rfl #[.int .u64 a1, .int .i64 a2] rfl (by (try simp only [List.map_toArray, List.map_cons, List.map_nil]); first | done | rfl | (simp only [List.length_drop, List.length_take]; rfl)) ?_; (with_reducible refine (drawlotref16_All.calls k a1 a2 t509 t510 _ A7.out).mono ?_); rintro e w31 ⟨v511, rfl, ho0, hb⟩; refine ⟨_, rfl, ?_⟩; have n0_ := Aside0.mk (Kd.R_elder' (by (with_reducible repeat (first | apply Kd.R_alloc | apply Kd.R_drewN | apply Kd.R_drew)); exact HO508.out) (Kd.R_base ho0) hb); have n1_ := Aside0.mk (Kd.R_lower (Kd.R_new' ho0 (Kd.R_lt (by (with_reducible repeat (first | apply Kd.R_alloc | apply Kd.R_drewN | apply Kd.R_drew)); exact HO508.out))) (below_size (by repeat (first | (with_reducible first | exact HB.out | apply below_alloc | apply pw_below_drewN | apply below_drew1) | exact HB.out)))); have n2_ := Aside0.mk (below_step (by repeat (first | (with_reducible first | exact HB.out | apply below_alloc | apply pw_below_drewN | apply below_drew1) | exact HB.out)) hb); clear HO508; clear HB; have HO508 := n0_; have HO512 := n1_; have HB := n2_; clear n0_ n1_ n2_; (try clear hb); (try clear hb2); (try clear hk); (try clear hi); (try clear ho0)) | ((with_reducible refine gate_callee (f := 32) rfl ?_); refine goesL_ (some 44) rfl rfl Try.func32 (by kernel_rfl) rfl #[.int .u64 a1, .int .i64 a2] rfl (by (try simp only [List.map_toArray, List.map_cons, List.map_nil]); first | done | rfl | (simp only [List.length_drop, List.length_take]; rfl)) ?_; (with_reducible refine (odds_Lost.calls k a1 a2 t513 t516 _ A8.out).mono ?_); rintro e w32 ⟨v514, rfl, ho0, hb⟩; refine ⟨_, rfl, ?_⟩; have n0_ := Aside0.mk (Kd.R_below (by (with_reducible repeat (first | apply Kd.R_alloc | apply Kd.R_drewN | apply Kd.R_drew)); exact HO508.out) hb); have n1_ := Aside0.mk (Kd.R_below (by (with_reducible repeat (first | apply Kd.R_alloc | apply Kd.R_drewN | apply Kd.R_drew)); exact HO512.out) hb); have n2_ := Aside0.mk (Kd.V_lower (Kd.V_mono (ok' := fun k_ => some k_ ≠ (v507 : Value).ownBlock ∧ some k_ ≠ (v511 : Value).ownBlock) ho0 (fun k_ hk_ => ⟨(Kd.fresh' (Kd.R_lt (by (with_reducible repeat (first | apply Kd.R_alloc | apply Kd.R_drewN | apply Kd.R_drew)); exact HO508.out)) k_ hk_), (Kd.fresh' (Kd.R_lt (by (with_reducible repeat (first | apply Kd.R_alloc | apply Kd.R_drewN | apply Kd.R_drew)); exact HO512.out)) k_ hk_)⟩)) (below_size (by repeat (first | (with_reducible first | exact HB.out | apply below_alloc | apply pw_below_drewN | apply below_drew1) | exact HB.out)))); have n3_ := Aside0.mk (below_step (by repeat (first | (with_reducible first | exact HB.out | apply below_alloc | apply pw_below_drewN | apply below_drew1) | exact HB.out)) hb); clear HO508; clear HO512; clear HB; have HO508 := n0_; have HO512 := n1_; have HO515 := n2_; have HB := n3_; clear n0_ n1_ n2_ n3_; (try clear hb); (try clear hb2); (try clear hk); (try clear hi); (try clear ho0)) | ((with_reducible refine gate_callee (f := 33) rfl ?_); refine goesL_ (some 50) rfl rfl Try.func33 (by kernel_rfl) rfl #[.int .u64 a1, .int .i64 a2] rfl (by (try simp only [List.map_toArray, List.map_cons, List.map_nil]); first | done | rfl | (simp only [List.length_drop, List.length_take]; rfl)) ?_; (with_reducible refine (drawlotref16_Lost.calls k a1 a2 t517 t520 _ A9.out).mono ?_); rintro e w33 ⟨v518, rfl, ho0, hb⟩; refine ⟨_, rfl, ?_⟩; have n0_ := Aside0.mk (Kd.R_below (by (with_reducible repeat (first | apply Kd.R_alloc | apply Kd.R_drewN | apply Kd.R_drew)); exact HO508.out) hb); have n1_ := Aside0.mk (Kd.R_below (by (with_reducible repeat (first | apply Kd.R_alloc | apply Kd.R_drewN | apply Kd.R_drew)); exact HO512.out) hb); have n2_ := Aside0.mk (Kd.V_below (by (with_reducible repeat (first | apply Kd.V_alloc | apply Kd.V_drewN | apply Kd.V_drew)); exact HO515.out) hb); have n3_ := Aside0.mk (Kd.V_lower (Kd.V_mono (ok' := fun k_ => some k_ ≠ (v507 : Value).ownBlock ∧ some k_ ≠ (v511 : Value).ownBlock) ho0 (fun k_ hk_ => ⟨(Kd.fresh' (Kd.R_lt (by (with_reducible repeat (first | apply Kd.R_alloc | apply Kd.R_drewN | apply Kd.R_drew)); exact HO508.out)) k_ hk_), (Kd.fresh' (Kd.R_lt (by (with_reducible repeat (first | apply Kd.R_alloc | apply Kd.R_drewN | apply Kd.R_drew)); exact HO512.out)) k_ hk_)⟩)) (below_size (by repeat (first | (with_reducible first | exact HB.out | apply below_alloc | apply pw_below_drewN | apply below_drew1) | exact HB.out)))); have n4_ := Aside0.mk (below_step (by repeat (first | (with_reducible first | exact HB.out | apply below_alloc | apply pw_below_drewN | apply below_drew1) | exact HB.out)) hb); clear HO508; clear HO512; clear HO515; clear HB; have HO508 := n0_; have HO512 := n1_; have HO515 := n2_; have HO519 := n3_; have HB := n4_; clear n0_ n1_ n2_ n3_ n4_; (try clear hb); (try clear hb2); (try clear hk); (try clear hi); (try clear ho0)) | ((with_reducible refine gate_callee (f := 34) rfl ?_); refine goesL_ (some 56) rfl rfl Try.func34 (by kernel_rfl) rfl #[.int .u64 a1, .int .i64 a2] rfl (by (try simp only [List.map_toArray, List.map_cons, List.map_nil]); first | done | rfl | (simp only [List.length_drop, List.length_take]; rfl)) ?_; (with_reducible refine (odds_Each.calls k a1 a2 t521 t524 _ A10.out).mono ?_); rintro e w34 ⟨v522, rfl, ho0, hb⟩; refine ⟨_, rfl, ?_⟩; have n0_ := Aside0.mk (Kd.R_below (by (with_reducible repeat (first | apply Kd.R_alloc | apply Kd.R_drewN | apply Kd.R_drew)); exact HO508.out) hb); have n1_ := Aside0.mk (Kd.R_below (by (with_reducible repeat (first | apply Kd.R_alloc | apply Kd.R_drewN | apply Kd.R_drew)); exact HO512.out) hb); have n2_ := Aside0.mk (Kd.V_below (by (with_reducible repeat (first | apply Kd.V_alloc | apply Kd.V_drewN | apply Kd.V_drew)); exact HO515.out) hb); have n3_ := Aside0.mk (Kd.V_below (by (with_reducible repeat (first | apply Kd.V_alloc | apply Kd.V_drewN | apply Kd.V_drew)); exact HO519.out) hb); have n4_ := Aside0.mk (Kd.V_lower (Kd.V_mono (ok' := fun k_ => some k_ ≠ (v507 : Value).ownBlock ∧ some k_ ≠ (v511 : Value).ownBlock) ho0 (fun k_ hk_ => ⟨(Kd.fresh' (Kd.R_lt (by (with_reducible repeat (first | apply Kd.R_alloc | apply Kd.R_drewN | apply Kd.R_drew)); exact HO508.out)) k_ hk_), (Kd.fresh' (Kd.R_lt (by (with_reducible repeat (first | apply Kd.R_alloc | apply Kd.R_drewN | apply Kd.R_drew)); exact HO512.out)) k_ hk_)⟩)) (below_size (by repeat (first | (with_reducible first | exact HB.out | apply below_alloc | apply pw_below_drewN | apply below_drew1) | exact HB.out)))); have n5_ := Aside0.mk (below_step (by repeat (first | (with_reducible first | exact HB.out | apply below_alloc | apply pw_below_drewN | apply below_drew1) | exact HB.out)) hb); clear HO508; clear HO512; clear HO515; clear HO519; clear HB; have HO508 := n0_; have HO512 := n1_; have HO515 := n2_; have HO519 := n3_; have HO523 := n4_; have HB := n5_; clear n0_ n1_ n2_ n3_ n4_ n5_; (try clear hb); (try clear hb2); (try clear hk); (try clear hi); (try clear ho0)) | ((with_reducible refine gate_callee (f := 35) rfl ?_); refine goesL_ (some 62) rfl rfl Try.func35 (by kernel_rfl) rfl #[.int .u64 a1, .int .i64 a2] rfl (by (try simp only [List.map_toArray, List.map_cons, List.map_nil]); first | done | rfl | (simp only [List.length_drop, List.length_take]; rfl)) ?_; (with_reducible refine (drawlotref16_Each.calls k a1 a2 t525 t528 _ A11.out).mono ?_); rintro e w35 ⟨v526, rfl, ho0, hb⟩; refine ⟨_, rfl, ?_⟩; have n0_ := Aside0.mk (Kd.R_below (by (with_reducible repeat (first | apply Kd.R_alloc | apply Kd.R_drewN | apply Kd.R_drew)); exact HO508.out) hb); have n1_ := Aside0.mk (Kd.R_below (by (with_reducible repeat (first | apply Kd.R_alloc | apply Kd.R_drewN | apply Kd.R_drew)); exact HO512.out) hb); have n2_ := Aside0.mk (Kd.V_below (by (with_reducible repeat (first | apply Kd.V_alloc | apply Kd.V_drewN | apply Kd.V_drew)); exact HO515.out) hb); have n3_ := Aside0.mk (Kd.V_below (by (with_reducible repeat (first | apply Kd.V_alloc | apply Kd.V_drewN | apply Kd.V_drew)); exact HO519.out) hb); have n4_ := Aside0.mk (Kd.V_below (by (with_reducible repeat (first | apply Kd.V_alloc | apply Kd.V_drewN | apply Kd.V_drew)); exact HO523.out) hb); have n5_ := Aside0.mk (Kd.V_lower (Kd.V_mono (ok' := fun k_ => some k_ ≠ (v507 : Value).ownBlock ∧ some k_ ≠ (v511 : Value).ownBlock) ho0 (fun k_ hk_ => ⟨(Kd.fresh' (Kd.R_lt (by (with_reducible repeat (first | apply Kd.R_alloc | apply Kd.R_drewN | apply Kd.R_drew)); exact HO508.out)) k_ hk_), (Kd.fresh' (Kd.R_lt (by (with_reducible repeat (first | apply Kd.R_alloc | apply Kd.R_drewN | apply Kd.R_drew)); exact HO512.out)) k_ hk_)⟩)) (below_size (by repeat (first | (with_reducible first | exact HB.out | apply below_alloc | apply pw_below_drewN | apply below_drew1) | exact HB.out)))); have n6_ := Aside0.mk (below_step (by repeat (first | (with_reducible first | exact HB.out | apply below_alloc | apply pw_below_drewN | apply below_drew1) | exact HB.out)) hb); clear HO508; clear HO512; clear HO515; clear HO519; clear HO523; clear HB; have HO508 := n0_; have HO512 := n1_; have HO515 := n2_; have HO519 := n3_; have HO523 := n4_; have HO527 := n5_; have HB := n6_; clear n0_ n1_ n2_ n3_ n4_ n5_ n6_; (try clear hb); (try clear hb2); (try clear hk); (try clear hi); (try clear ho0)) | ((with_reducible refine gate_callee (f := 36) rfl ?_); refine goesL_ (some 69) rfl rfl Try.func36 (by kernel_rfl) rfl #[.int .u64 a0, .int .u64 a1, .int .i64 a2] rfl (by (try simp only [List.map_toArray, List.map_cons, List.map_nil]); first | done | rfl | (simp only [List.length_drop, List.length_take]; rfl)) ?_; (with_reducible refine (odds_Share.calls k a0 a1 a2 t529 t532 _ A12.out).mono ?_); rintro e w36 ⟨v530, rfl, ho0, hb⟩; refine ⟨_, rfl, ?_⟩; have n0_ := Aside0.mk (Kd.R_below (by (with_reducible repeat (first | apply Kd.R_alloc | apply Kd.R_drewN | apply Kd.R_drew)); exact HO508.out) hb); have n1_ := Aside0.mk (Kd.R_below (by (with_reducible repeat (first | apply Kd.R_alloc | apply Kd.R_drewN | apply Kd.R_drew)); exact HO512.out) hb); have n2_ := Aside0.mk (Kd.V_below (by (with_reducible repeat (first | apply Kd.V_alloc | apply Kd.V_drewN | apply Kd.V_drew)); exact HO515.out) hb); have n3_ := Aside0.mk (Kd.V_below (by (with_reducible repeat (first | apply Kd.V_alloc | apply Kd.V_drewN | apply Kd.V_drew)); exact HO519.out) hb); have n4_ := Aside0.mk (Kd.V_below (by (with_reducible repeat (first | apply Kd.V_alloc | apply Kd.V_drewN | apply Kd.V_drew)); exact HO523.out) hb); have n5_ := Aside0.mk (Kd.V_below (by (with_reducible repeat (first | apply Kd.V_alloc | apply Kd.V_drewN | apply Kd.V_drew)); exact HO527.out) hb); have n6_ := Aside0.mk (Kd.V_lower (Kd.V_mono (ok' := fun k_ => some k_ ≠ (v507 : Value).ownBlock ∧ some k_ ≠ (v511 : Value).ownBlock) ho0 (fun k_ hk_ => ⟨(Kd.fresh' (Kd.R_lt (by (with_reducible repeat (first | apply Kd.R_alloc | apply Kd.R_drewN | apply Kd.R_drew)); exact HO508.out)) k_ hk_), (Kd.fresh' (Kd.R_lt (by (with_reducible repeat (first | apply Kd.R_alloc | apply Kd.R_drewN | apply Kd.R_drew)); exact HO512.out)) k_ hk_)⟩)) (below_size (by repeat (first | (with_reducible first | exact HB.out | apply below_alloc | apply pw_below_drewN | apply below_drew1) | exact HB.out)))); have n7_ := Aside0.mk (below_step (by repeat (first | (with_reducible first | exact HB.out | apply below_alloc | apply pw_below_drewN | apply below_drew1) | exact HB.out)) hb); clear HO508; clear HO512; clear HO515; clear HO519; clear HO523; clear HO527; clear HB; have HO508 := n0_; have HO512 := n1_; have HO515 := n2_; have HO519 := n3_; have HO523 := n4_; have HO527 := n5_; have HO531 := n6_; have HB := n7_; clear n0_ n1_ n2_ n3_ n4_ n5_ n6_ n7_; (try clear hb); (try clear hb2); (try clear hk); (try clear hi); (try clear ho0)) | ((with_reducible refine gate_callee (f := 37) rfl ?_); refine goesL_ (some 76) rfl rfl Try.func37 (by kernel_rfl) rfl #[.int .u64 a0, .int .u64 a1, .int .i64 a2] rfl (by (try simp only [List.map_toArray, List.map_cons, List.map_nil]); first | done | rfl | (simp only [List.length_drop, List.length_take]; rfl)) ?_; (with_reducible refine (drawlotref16_Share.calls k a0 a1 a2 t533 t536 _ A13.out).mono ?_); rintro e w37 ⟨v534, rfl, ho0, hb⟩; refine ⟨_, rfl, ?_⟩; have n0_ := Aside0.mk (Kd.R_below (by (with_reducible repeat (first | apply Kd.R_alloc | apply Kd.R_drewN | apply Kd.R_drew)); exact HO508.out) hb); have n1_ := Aside0.mk (Kd.R_below (by (with_reducible repeat (first | apply Kd.R_alloc | apply Kd.R_drewN | apply Kd.R_drew)); exact HO512.out) hb); have n2_ := Aside0.mk (Kd.V_below (by (with_reducible repeat (first | apply Kd.V_alloc | apply Kd.V_drewN | apply Kd.V_drew)); exact HO515.out) hb); have n3_ := Aside0.mk (Kd.V_below (by (with_reducible repeat (first | apply Kd.V_alloc | apply Kd.V_drewN | apply Kd.V_drew)); exact HO519.out) hb); have n4_ := Aside0.mk (Kd.V_below (by (with_reducible repeat (first | apply Kd.V_alloc | apply Kd.V_drewN | apply Kd.V_drew)); exact HO523.out) hb); have n5_ := Aside0.mk (Kd.V_below (by (with_reducible repeat (first | apply Kd.V_alloc | apply Kd.V_drewN | apply Kd.V_drew)); exact HO527.out) hb); have n6_ := Aside0.mk (Kd.V_below (by (with_reducible repeat (first | apply Kd.V_alloc | apply Kd.V_drewN | apply Kd.V_drew)); exact HO531.out) hb); have n7_ := Aside0.mk (Kd.V_lower (Kd.V_mono (ok' := fun k_ => some k_ ≠ (v507 : Value).ownBlock ∧ some k_ ≠ (v511 : Value).ownBlock) ho0 (fun k_ hk_ => ⟨(Kd.fresh' (Kd.R_lt (by (with_reducible repeat (first | apply Kd.R_alloc | apply Kd.R_drewN | apply Kd.R_drew)); exact HO508.out)) k_ hk_), (Kd.fresh' (Kd.R_lt (by (with_reducible repeat (first | apply Kd.R_alloc | apply Kd.R_drewN | apply Kd.R_drew)); exact HO512.out)) k_ hk_)⟩)) (below_size (by repeat (first | (with_reducible first | exact HB.out | apply below_alloc | apply pw_below_drewN | apply below_drew1) | exact HB.out)))); have n8_ := Aside0.mk (below_step (by repeat (first | (with_reducible first | exact HB.out | apply below_alloc | apply pw_below_drewN | apply below_drew1) | exact HB.out)) hb); clear HO508; clear HO512; clear HO515; clear HO519; clear HO523; clear HO527; clear HO531; clear HB; have HO508 := n0_; have HO512 := n1_; have HO515 := n2_; have HO519 := n3_; have HO523 := n4_; have HO527 := n5_; have HO531 := n6_; have HO535 := n7_; have HB := n8_; clear n0_ n1_ n2_ n3_ n4_ n5_ n6_ n7_ n8_; (try clear hb); (try clear hb2); (try clear hk); (try clear hi); (try clear ho0)) | ((with_reducible refine gate_callee (f := 38) rfl ?_); refine goesL_ (some 82) rfl rfl Try.func38 (by kernel_rfl) rfl #[.int .u64 a1, .int .i64 a2] rfl (by (try simp only [List.map_toArray, List.map_cons, List.map_nil]); first | done | rfl | (simp only [List.length_drop, List.length_take]; rfl)) ?_; (with_reducible refine (odds_Bits.calls k a1 a2 t537 t538 _ A14.out).mono ?_); rintro e w38 ⟨rfl, hb⟩; refine ⟨_, rfl, ?_⟩; have n0_ := Aside0.mk (Kd.R_below (by (with_reducible repeat (first | apply Kd.R_alloc | apply Kd.R_drewN | apply Kd.R_drew)); exact HO508.out) hb); have n1_ := Aside0.mk (Kd.R_below (by (with_reducible repeat (first | apply Kd.R_alloc | apply Kd.R_drewN | apply Kd.R_drew)); exact HO512.out) hb); have n2_ := Aside0.mk (Kd.V_below (by (with_reducible repeat (first | apply Kd.V_alloc | apply Kd.V_drewN | apply Kd.V_drew)); exact HO515.out) hb); have n3_ := Aside0.mk (Kd.V_below (by (with_reducible repeat (first | apply Kd.V_alloc | apply Kd.V_drewN | apply Kd.V_drew)); exact HO519.out) hb); have n4_ := Aside0.mk (Kd.V_below (by (with_reducible repeat (first | apply Kd.V_alloc | apply Kd.V_drewN | apply Kd.V_drew)); exact HO523.out) hb); have n5_ := Aside0.mk (Kd.V_below (by (with_reducible repeat (first | apply Kd.V_alloc | apply Kd.V_drewN | apply Kd.V_drew)); exact HO527.out) hb); have n6_ := Aside0.mk (Kd.V_below (by (with_reducible repeat (first | apply Kd.V_alloc | apply Kd.V_drewN | apply Kd.V_drew)); exact HO531.out) hb); have n7_ := Aside0.mk (Kd.V_below (by (with_reducible repeat (first | apply Kd.V_alloc | apply Kd.V_drewN | apply Kd.V_drew)); exact HO535.out) hb); have n8_ := Aside0.mk (below_step (by repeat (first | (with_reducible first | exact HB.out | apply below_alloc | apply pw_below_drewN | apply below_drew1) | exact HB.out)) hb); clear HO508; clear HO512; clear HO515; clear HO519; clear HO523; clear HO527; clear HO531; clear HO535; clear HB; have HO508 := n0_; have HO512 := n1_; have HO515 := n2_; have HO519 := n3_; have HO523 := n4_; have HO527 := n5_; have HO531 := n6_; have HO535 := n7_; have HB := n8_; clear n0_ n1_ n2_ n3_ n4_ n5_ n6_ n7_ n8_; (try clear hb); (try clear hb2); (try clear hk); (try clear hi)) | ((with_reducible refine gate_callee (f := 39) rfl ?_); refine goesL_ (some 88) rfl rfl Try.func39 (by kernel_rfl) rfl #[.int .u64 a1, .int .i64 a2] rfl (by (try simp only [List.map_toArray, List.map_cons, List.map_nil]); first | done | rfl | (simp only [List.length_drop, List.length_take]; rfl)) ?_; (with_reducible refine (drawlotref16_Bits.calls k a1 a2 t539 t540 _ A15.out).mono ?_); rintro e w' ⟨rfl, ⟨nd, rfl⟩⟩; refine ⟨_, rfl, ?_⟩; obtain ⟨Ao39, co39, eo39⟩ := Kd.R_slice HO508.out; subst eo39; obtain ⟨Ao40, co40, eo40⟩ := Kd.R_slice HO512.out; subst eo40) | ((with_reducible refine gate_callee (f := 40) rfl ?_); refine goesL_ (some 93) rfl rfl Try.func40 (by kernel_rfl) rfl #[.slice Ao39 t505.length co39, .slice Ao40 t509.length co40] rfl (by (try simp only [List.map_toArray, List.map_cons, List.map_nil]); first | done | rfl | (simp only [List.length_drop, List.length_take]; rfl)) ?_; (with_reducible refine (drawlotref10_Same.calls k _ _ t505 _ _ t509 true _ ?side1 ?side2 ?side3 ?side4 A16.out).mono ?_); (case side1 => repeat (first | exact (Kd.R_reads' HO508.out).2.2 | (with_reducible refine Kd.C_alloc ?_ _) | (with_reducible refine Kd.C_drewN ?_ _) | (with_reducible refine Kd.C_drew ?_))); (case side2 => exact (Kd.R_reads' HO508.out).2.1); (case side3 => repeat (first | exact (Kd.R_reads' HO512.out).2.2 | (with_reducible refine Kd.C_alloc ?_ _) | (with_reducible refine Kd.C_drewN ?_ _) | (with_reducible refine Kd.C_drew ?_))); (case side4 => exact (Kd.R_reads' HO512.out).2.1); rintro e w' ⟨rfl, ⟨nd, rfl⟩⟩; refine ⟨_, rfl, ?_⟩; obtain ⟨Ao41, co41, eo41⟩ := Kd.V_slice HO515.out; subst eo41; obtain ⟨Ao42, co42, eo42⟩ := Kd.V_slice HO519.out; subst eo42) | (go_at_call 40; (with_reducible refine (drawlotref10_Same.calls k _ _ t513 _ _ t517 true _ ?side1 ?side2 ?side3 ?side4 A19.out).mono ?_); (case side1 => repeat (first | exact (Kd.V_reads' HO515.out).2.2 | (with_reducible refine Kd.C_alloc ?_ _) | (with_reducible refine Kd.C_drewN ?_ _) | (with_reducible refine Kd.C_drew ?_))); (case side2 => exact (Kd.V_reads' HO515.out).2.1); (case side3 => repeat (first | exact (Kd.V_reads' HO519.out).2.2 | (with_reducible refine Kd.C_alloc ?_ _) | (with_reducible refine Kd.C_drewN ?_ _) | (with_reducible refine Kd.C_drew ?_))); (case side4 => exact (Kd.V_reads' HO519.out).2.1); rintro e w' ⟨rfl, ⟨nd, rfl⟩⟩; obtain ⟨Ao43, co43, eo43⟩ := Kd.V_slice HO523.out; subst eo43; obtain ⟨Ao44, co44, eo44⟩ := Kd.V_slice HO527.out; subst eo44) | (go_at_call 40; (with_reducible refine (drawlotref10_Same.calls k _ _ t521 _ _ t525 true _ ?side1 ?side2 ?side3 ?side4 A22.out).mono ?_); (case side1 => repeat (first | exact (Kd.V_reads' HO523.out).2.2 | (with_reducible refine Kd.C_alloc ?_ _) | (with_reducible refine Kd.C_drewN ?_ _) | (with_reducible refine Kd.C_drew ?_))); (case side2 => exact (Kd.V_reads' HO523.out).2.1); (case side3 => repeat (first | exact (Kd.V_reads' HO527.out).2.2 | (with_reducible refine Kd.C_alloc ?_ _) | (with_reducible refine Kd.C_drewN ?_ _) | (with_reducible refine Kd.C_drew ?_))); (case side4 => exact (Kd.V_reads' HO527.out).2.1); rintro e w' ⟨rfl, ⟨nd, rfl⟩⟩; obtain ⟨Ao45, co45, eo45⟩ := Kd.V_slice HO531.out; subst eo45; obtain ⟨Ao46, co46, eo46⟩ := Kd.V_slice HO535.out; subst eo46) | (go_at_call 40; (with_reducible refine (drawlotref10_Same.calls k _ _ t529 _ _ t533 true _ ?side1 ?side2 ?side3 ?side4 A25.out).mono ?_); (case side1 => repeat (first | exact (Kd.V_reads' HO531.out).2.2 | (with_reducible refine Kd.C_alloc ?_ _) | (with_reducible refine Kd.C_drewN ?_ _) | (with_reducible refine Kd.C_drew ?_))); (case side2 => exact (Kd.V_reads' HO531.out).2.1); (case side3 => repeat (first | exact (Kd.V_reads' HO535.out).2.2 | (with_reducible refine Kd.C_alloc ?_ _) | (with_reducible refine Kd.C_drewN ?_ _) | (with_reducible refine Kd.C_drew ?_))); (case side4 => exact (Kd.V_reads' HO535.out).2.1); rintro e w' ⟨rfl, ⟨nd, rfl⟩⟩))
           go_ret
           exact ⟨by first | rfl | (simp [errW_none, errW_some] <;> rfl) | (simp [*, errW_none, errW_some] <;> rfl), by repeat (first | (with_reducible first | exact HB.out | apply below_alloc | apply pw_below_drewN | apply below_drew1) | exact HB.out)⟩
          ·rw [if_neg c28] at H
           exact absurd H (by simp)
         ·rw [if_neg c27] at H
          exact absurd H (by simp)
        ·replace c26 := Bool.eq_false_iff.mpr c26
         subst c26
         have H1 : (none) = some r := by rw [if_neg (show ¬ (false = true) by decide)] at H; exact H
         clear H
         have H := H1
         clear H1
         exact absurd H (by simp)
       ·rw [if_neg c24] at H
        exact absurd H (by simp)
      ·replace c23 := Bool.eq_false_iff.mpr c23
       subst c23
       have H1 : (none) = some r := by rw [if_neg (show ¬ (false = true) by decide)] at H; exact H
       clear H
       have H := H1
       clear H1
       exact absurd H (by simp)
     ·rw [if_neg c21] at H
      exact absurd H (by simp)
    ·replace c20 := Bool.eq_false_iff.mpr c20
     subst c20
     have H1 : (none) = some r := by rw [if_neg (show ¬ (false = true) by decide)] at H; exact H
     clear H
     have H := H1
     clear H1
     exact absurd H (by simp)
   ·rw [if_neg c18] at H
    exact absurd H (by simp)
  ·replace c17 := Bool.eq_false_iff.mpr c17
   subst c17
   have H1 : (none) = some r := by rw [if_neg (show ¬ (false = true) by decide)] at H; exact H
   clear H
   have H := H1
   clear H1
   exact absurd H (by simp)
 ·replace c5 := Bool.eq_false_iff.mpr c5
  subst c5
  have H1 : (none) = some r := by rw [if_neg (show ¬ (false = true) by decide)] at H; exact H
  clear H
  have H := H1
  clear H1
  exact absurd H (by simp)

/-- THE ONE PURE STATEMENT of drawlotlaw16_OddsBounds: yours. -/
def drawlotlaw16_OddsBounds.Pure : Prop := ∀ (a0 : Int) (a1 : Int) (a2 : Int), (Lit.int .u64 a0).wf = true → (Lit.int .u64 a1).wf = true → (Lit.int .i64 a2).wf = true → ∃ k, drawlotlaw16_OddsBounds.f k a0 a1 a2 = some true
theorem drawlotlaw16_OddsBounds.walk (P : drawlotlaw16_OddsBounds.Pure) (a0 : Int) (a1 : Int) (a2 : Int) (w : World) (w0 : (Lit.int .u64 a0).wf = true) (w1 : (Lit.int .u64 a1).wf = true) (w2 : (Lit.int .i64 a2).wf = true) :
  Calls Try.prog 8 #[.int .u64 a0, .int .u64 a1, .int .i64 a2] w fun e w' => e = .returned (.bool true) ∧ Below w.heap.size w w' := by
 obtain ⟨k, h⟩ := P a0 a1 a2 w0 w1 w2
 refine (drawlotlaw16_OddsBounds.calls k a0 a1 a2 true w h).mono ?_
 rintro e w' ⟨rfl, hd⟩
 exact ⟨rfl, hd⟩

end Go.Proofs.Ytbafkkbbjacekaa.PO
