-- written by programs of this session
import Derived.Test.YthmnomdjpbfefaaDoorSPx0
import Derived.Test.YthmnomdjpbfefaaDoorSPx1
import Derived.Test.YthmnomdjpbfefaaDoorSPx2
import Derived.Test.YthmnomdjpbfefaaDoorSPx4
import Derived.Test.YthmnomdjpbfefaaDoorSPx5
namespace Go.Proofs.YthmnomdjpbfefaaDoor.P
open Go.Proofs.YthmnomdjpbfefaaDoor.M
open Go.RowKit Go.Proofs.YthmnomdjpbfefaaDoorW.PrintWords Go.Proofs.YthmnomdjpbfefaaDoorW.PrintLast Go.Proofs.YthmnomdjpbfefaaDoorW.PrintMore
attribute [local go_sem] max2_int min2_int max_two min_two max_three min_three max_four min_four   -- for this text's walks alone
set_option linter.unusedVariables false
set_option linter.unusedSimpArgs false
end Go.Proofs.YthmnomdjpbfefaaDoor.P
