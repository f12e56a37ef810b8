-- written by programs of this session
import Derived.SizedLaws
import Derived.ChangeSlices
namespace Go.Proofs.YthmnomdjpbfefaaDoorW.PrintWords
open Go.ChangeShapes Go.WideShapes
end Go.Proofs.YthmnomdjpbfefaaDoorW.PrintWords
