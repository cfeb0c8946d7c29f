/- What the package-level variables of the library hold (strconv's, bytealg.MaxLen), as a premise that every step keeps. -/
import Derived.Test.YtfafjbolmeimmaaDoorShP
namespace Go.Proofs.YtfafjbolmeimmaaDoor.P
open Go.RowKit
theorem var_below {n : String} {g : Nat} {cs : Array Value} {w w' : World} (hg : Tryd.prog.globalNamed n = some g) (h : w.var? Tryd.prog n = some cs) (hb : Below w.heap.size w w') : w'.var? Tryd.prog n = some cs := by
  unfold World.var? at h ⊢
  rw [hg] at h ⊢
  simp only [Option.bind_some] at h ⊢
  have hlt : g < w.heap.size := by
    rcases Nat.lt_or_ge g w.heap.size with h' | h'
    · exact h'
    · rw [Array.getElem?_eq_none h'] at h; cases h
  rw [hb.block g hlt]
  exact h
def GT (w : World) : Prop := (∃ tp p, w.var? Tryd.prog "strconv.ErrSyntax" = some #[.iface tp p]) ∧ (∃ tp p, w.var? Tryd.prog "strconv.ErrRange" = some #[.iface tp p]) ∧ Lib.TabIs Tryd.prog w "internal/strconv.uint64pow10" .u64 Lib.pow10Tab ∧ ∃ m, w.cell? ⟨4, 0, none⟩ = some (.int .i64 m)
theorem GT_below {w w' : World} (h : GT w) (hb : Below w.heap.size w w') : GT w' := by
  obtain ⟨⟨a, b, h1⟩, ⟨c, d, h2⟩, h3, ⟨m, h4⟩⟩ := h
  exact ⟨⟨a, b, var_below (g := 5) (by kernel_rfl) h1 hb⟩, ⟨c, d, var_below (g := 6) (by kernel_rfl) h2 hb⟩, var_below (g := 7) (by kernel_rfl) h3 hb, m, (hb.cell (World.block_lt_of_cell? w _ h4)).trans h4⟩
end Go.Proofs.YtfafjbolmeimmaaDoor.P
