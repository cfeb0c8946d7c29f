/- What the shelf's sort leaves behind, in the words of the print: an own row of whole numbers put anew. -/
import Derived.Test.YtbppeepihlajoaaDoorB0
import Derived.Sort.Row
import Derived.Sort.Grow
import Derived.Lib.SlicesCompact
namespace Go.Proofs.YtbppeepihlajoaaDoor.P
open Go.RowKit Go.Sort Go.Proofs.YtbppeepihlajoaaDoorW.PrintWords Go.Proofs.YtbppeepihlajoaaDoorW.PrintMore
set_option linter.unusedVariables false
set_option linter.unusedSimpArgs false
end Go.Proofs.YtbppeepihlajoaaDoor.P
