/- MADE BY rxgen.py: the tree of the law WideEnds. -/
import Derived.Test.YtimnofpofbnjbaaWdT
namespace Go.Proofs.Ytimnofpofbnjbaa
open Go.RowKit Go.RX
end Go.Proofs.Ytimnofpofbnjbaa
