/- The points of a text that was written of points are these points. -/
import Derived.Test.YtbppeepihlajoaaDoorXTx
namespace Go.Proofs.YtbppeepihlajoaaDoor.P
open Go.RowKit Go.Proofs.YtbppeepihlajoaaDoorW.PrintWords
set_option linter.unusedVariables false
end Go.Proofs.YtbppeepihlajoaaDoor.P
