/- What the package-level variables of the library hold, as a premise that every step keeps. -/
import Derived.Test.YtgahimbccbghnaaDoorSh
namespace Go.Proofs.YtgahimbccbghnaaDoor.P
open Go.RowKit
/-- The two tables of unicode/utf8 lie in the world as the library lays them. -/
def GT (w : World) : Prop := Lib.Utf8Tabs 0 1 w
theorem GT.tabs {w : World} (h : GT w) : Lib.Utf8Tabs 0 1 w := h
theorem GT_below {w w' : World} (h : GT w) (hb : Below w.heap.size w w') : GT w' := Utf8Tabs_below h hb
end Go.Proofs.YtgahimbccbghnaaDoor.P
