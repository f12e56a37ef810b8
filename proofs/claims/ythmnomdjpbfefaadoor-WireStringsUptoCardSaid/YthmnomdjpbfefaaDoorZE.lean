-- written by programs of this session
import Derived.Test.YthmnomdjpbfefaaDoorZD
import Derived.Test.YthmnomdjpbfefaaDoorZPx11
namespace Go.Proofs.YthmnomdjpbfefaaDoor.A
open Go.RowKit Go.Proofs.YthmnomdjpbfefaaDoorW.PrintWords Go.Proofs.YthmnomdjpbfefaaDoorW.PrintLast Go.Proofs.YthmnomdjpbfefaaDoorW.PrintMore Go.Proofs.YthmnomdjpbfefaaDoor.P
set_option linter.unusedVariables false
set_option linter.unusedSimpArgs false
theorem tmod_nat (a b : Nat) : Int.tmod (a : Int) (b : Int) = ((a % b : Nat) : Int) := by
  rw [Int.tmod_eq_emod_of_nonneg (by omega)]; omega
theorem num_some (x : Int) : kilnlaw1_num.f x = some x := rfl
end Go.Proofs.YthmnomdjpbfefaaDoor.A
