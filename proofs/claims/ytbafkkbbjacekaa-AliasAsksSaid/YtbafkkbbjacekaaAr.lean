/- Arrays of whole numbers, by value and as variables in memory: what one operation on them does, for the printed walks of this seat. No conditions. -/
import Derived.Test.YtbafkkbbjacekaaWMore
import Derived.Laws.Rows
import Derived.Laws.Tables
import Derived.Laws.StructEq
import Derived.ChangeKeysEq
import Derived.OpenShut
import Derived.ChangeShapes
import Derived.Laws.IdiomCopy
namespace Go.Proofs.Ytbafkkbbjacekaa.Ar
open Go.RowKit Go.Proofs.YtbafkkbbjacekaaW.PrintWords

/-- A list as one of n numbers. -/
def fit (n : Nat) (l : List Int) : List Int := l.take n ++ List.replicate (n - l.length) 0
theorem fit_len (n : Nat) (l : List Int) : (fit n l).length = n := by simp [fit]; omega
def cells (k : IntKind) (n : Nat) (l : List Int) : Array Value := (nums k (fit n l)).toArray
def set (n : Nat) (l : List Int) (j v : Int) : List Int := (fit n l).set j.toNat v
theorem cells_size (k : IntKind) (n : Nat) (l : List Int) : (cells k n l).size = n := by simp [cells, nums, fit_len]
section
variable {P : Program} {ops : Array Oper} {rest : List Oper} {o : Oper} {a : Act} {Q : Exit → Act → World → Prop} {W : World}

section
variable {Kc : Act → World → Prop}
end

end
/-! copy from one array variable into another -/
def part (m : Nat) (l : List Int) (o c : Nat) : List Int := ((fit m l).drop o).take c
def putAll (n : Nat) : List Int → Nat → List Int → List Int
  | l, _, [] => l
  | l, o, v :: r => putAll n (set n l (o : Int) v) (o + 1) r
section
variable {P : Program} {o : Oper} {ρ : Operand → Value} {W : World}
end

section
variable {P : Program} {ops : Array Oper} {rest : List Oper} {o : Oper} {a : Act} {Q : Exit → Act → World → Prop} {Kc : Act → World → Prop} {W : World}
end

/-! a cut of an array variable, as an array again -/
section
variable {P : Program} {ops : Array Oper} {rest : List Oper} {o : Oper} {a : Act} {Q : Exit → Act → World → Prop} {W : World}
theorem at_ (g i : Nat) : (⟨g, 0, none⟩ : Addr).add i = ⟨g, i, none⟩ := by unfold Addr.add; split <;> simp_all
end

/-! an array that came in -/
end Go.Proofs.Ytbafkkbbjacekaa.Ar
