-- written by programs of this session
import Derived.Test.YthmnomdjpbfefaaDoorSWInv
import Derived.Test.YthmnomdjpbfefaaDoorSWFootNe
namespace Go.Proofs.YthmnomdjpbfefaaDoorW.PrintWords
open Go.RowKit
end Go.Proofs.YthmnomdjpbfefaaDoorW.PrintWords
namespace Go.Proofs.YthmnomdjpbfefaaDoorW.PrintLast
section
variable {ops : Array Oper} {a : Act} {o og : Oper} {g : Nat} {t : Tmp} {u : Bool}
end
end Go.Proofs.YthmnomdjpbfefaaDoorW.PrintLast
