/- What the package-level variables hold, the library's two tables and the program's digitRows, as a premise that every step keeps. -/
import Derived.Test.YtbppeepihlajoaaDoorSh
namespace Go.Proofs.YtbppeepihlajoaaDoor.P
open Go.RowKit
/-- The rows of digits, as the program lays them. -/
def rowsL : List Int := [48, 592, 848, 1104, 1360, 1616, 10016]
def DigitRows (w : World) : Prop := ∃ (a : Addr) (cap : Nat), 7 ≤ cap ∧ w.cell? ⟨0, 0, none⟩ = some (.slice (some a) 7 cap) ∧ ∀ i, i < 7 → w.cell? (a.add i) = some (.int .i64 (rowsL.getD i 0))
theorem DigitRows_below {w w' : World} (h : DigitRows w) (hb : Below w.heap.size w w') : DigitRows w' := by
  obtain ⟨a, cap, h0, h1, h2⟩ := h
  exact ⟨a, cap, h0, (hb.cell (World.block_lt_of_cell? w _ h1)).trans h1, fun i hi => (hb.cell (World.block_lt_of_cell? w _ (h2 i hi))).trans (h2 i hi)⟩
/-- The two tables of unicode/utf8 lie in the world as the library lays them, and the rows of digits. -/
def GT (w : World) : Prop := Lib.Utf8Tabs 1 2 w ∧ DigitRows w
theorem GT.tabs {w : World} (h : GT w) : Lib.Utf8Tabs 1 2 w := h.1
theorem GT_below {w w' : World} (h : GT w) (hb : Below w.heap.size w w') : GT w' := ⟨Utf8Tabs_below h.1 hb, DigitRows_below h.2 hb⟩
end Go.Proofs.YtbppeepihlajoaaDoor.P
