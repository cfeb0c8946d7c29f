/- What the package-level variables of the library hold, as a premise that every step keeps. -/
import Derived.Test.YtfafjbolmeimmaaDoorSh
namespace Go.Proofs.YtfafjbolmeimmaaDoor.P
open Go.RowKit
def GT (w : World) : Prop := Lib.Utf8Tabs 2 3 w
theorem GT.tabs {w : World} (h : GT w) : Lib.Utf8Tabs 2 3 w := h
theorem GT_below {w w' : World} (h : GT w) (hb : Below w.heap.size w w') : GT w' := Utf8Tabs_below h hb
end Go.Proofs.YtfafjbolmeimmaaDoor.P
