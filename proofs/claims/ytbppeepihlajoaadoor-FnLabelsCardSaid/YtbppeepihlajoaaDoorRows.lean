/-
  NARROWER THAN 'FOR EVERY INPUT', by the rows' own cells (each row's printed sentence says how): FnLabels: laid · FnExactIsMixed: laid · FnExactLineCuts: laid · FnExactDistance: laid · FnExactEditsOf: laid · FnEdits: laid · FnExactLineCutsBy: laid · FnMoreLines: laid.
  DERIVED. THE GIVEN ROWS OF THIS SEAT. 8 by the template 'for every input the law returns true; each argument reads behind the call as it read before'; 0 by the template 'total and deterministic' (their statements: YtbppeepihlajoaaDoorTotals.lean).
  GIVEN WITH THE SEED: the statements are not yours to turn. If you find one false, say at which input.
  Laid BY PROGRAM, IN A SANDBOX (cutbox-rows.mjs): the forced cells as the released guide's own fill.sh prints them over the translation 7ffaa927bc8637c2… (all of the seat's roots in one cut). By AI agents, Wed Nov 11 2026. No macro, syntax, notation, axiom, sorry.
-/
import Derived.Test.YtbppeepihlajoaaDoorChecked
import GoSem.PinnedTables
import GoSem.Claim
import GoSem.ClaimJoined
import GoSem.ClaimMapViews
import Derived.JoinedTies
import Derived.KernelRfl
namespace Go.Proofs.YtbppeepihlajoaaDoor
/- THE CELL 'sum', in the pinned program and in every row, IS THE sha256 OF THE DUMP (.gsa) THAT YtbppeepihlajoaaDoorProg.lean LOADS. Nothing in Lean hashes anything: it is a label: what it is worth is what the hold of that sum in a sandbox is worth. -/
noncomputable def Tryd.pinned : Pinned := { name := "ytbppeepihlajoaadoor", sum := "7ffaa927bc8637c28c1e50bf5d98cbe186f832ec31b25f96ebbb42d3c717942c", checked := Tryd.checked }
namespace Rows
def none {H : Type} : Left H := { results := [], args := [] }

/- WHAT THE LISTED PACKAGE-LEVEL VARIABLES READ AS WHEN THE CALL BEGINS. Each datum BY PROGRAM (the guide's laid-datum.mjs) off the statement by which the dump's own 'gosem.cut.vars' lays the variable. In a bare row this is a premise. The card (YtbppeepihlajoaaDoorCards.lean) ties it to the program's text. -/
def laid_unicode_utf8_acceptRanges {H : Type} : DataW H := .agg [.agg [.lit (.int .u8 128), .lit (.int .u8 191)], .agg [.lit (.int .u8 160), .lit (.int .u8 191)], .agg [.lit (.int .u8 128), .lit (.int .u8 159)], .agg [.lit (.int .u8 144), .lit (.int .u8 191)], .agg [.lit (.int .u8 128), .lit (.int .u8 143)], .agg [.lit (.int .u8 0), .lit (.int .u8 0)], .agg [.lit (.int .u8 0), .lit (.int .u8 0)], .agg [.lit (.int .u8 0), .lit (.int .u8 0)], .agg [.lit (.int .u8 0), .lit (.int .u8 0)], .agg [.lit (.int .u8 0), .lit (.int .u8 0)], .agg [.lit (.int .u8 0), .lit (.int .u8 0)], .agg [.lit (.int .u8 0), .lit (.int .u8 0)], .agg [.lit (.int .u8 0), .lit (.int .u8 0)], .agg [.lit (.int .u8 0), .lit (.int .u8 0)], .agg [.lit (.int .u8 0), .lit (.int .u8 0)], .agg [.lit (.int .u8 0), .lit (.int .u8 0)]]
/-- One of Go's own tables, pinned by name: the form's constant. -/
def laid_unicode_utf8_first : DataW Unit := Go.Pinned.utf8First
def laid_loop_example_g00044_impl_digitRows {H : Type} : DataW H := .slice [.lit (.int .i64 48), .lit (.int .i64 592), .lit (.int .i64 848), .lit (.int .i64 1104), .lit (.int .i64 1360), .lit (.int .i64 1616), .lit (.int .i64 10016)] []

/-- 'laws.FnLabels': WHATEVER THE INPUT: true; the input reads as it did. -/
def fnLabelsSpec : ChangeSpec := { name := "fnLabels", fn := fun _ => fun
  | [d] => { results := [.lit (.bool true)], args := [d] }
  | _ => none }
def fnLabelsRow : OpenClaim := { program := "ytbppeepihlajoaadoor", sum := "7ffaa927bc8637c28c1e50bf5d98cbe186f832ec31b25f96ebbb42d3c717942c", func := "loop.example/g00044/laws.FnLabels", spec := "fnLabels", inPlace := ["internal/bytealg.IndexByteString", "slices.overlaps[int64]"], named := ["unicode/utf8.first", "unicode/utf8.acceptRanges"], apart := false, laid := [("unicode/utf8.acceptRanges", laid_unicode_utf8_acceptRanges), ("unicode/utf8.first", laid_unicode_utf8_first)] }
def FnLabelsSaid : Prop := fnLabelsRow.holds Tryd.pinned (OpenSpec.ofChange fnLabelsSpec)

/-- ITS FALSE NEIGHBOUR: 'it returns false'. Refute it at one input. -/
def fnLabelsWrong : ChangeSpec := { name := "fnLabels", fn := fun _ => fun
  | [d] => { results := [.lit (.bool false)], args := [d] }
  | _ => none }
def FnLabelsWrongFalsely : Prop := fnLabelsRow.holds Tryd.pinned (OpenSpec.ofChange fnLabelsWrong)

/-- 'laws.FnExactIsMixed': WHATEVER THE INPUT: true; the input reads as it did. -/
def fnExactIsMixedSpec : ChangeSpec := { name := "fnExactIsMixed", vars := ["loop.example/g00044/impl.digitRows"], fn := fun _ => fun
  | [d, g1] => { results := [.lit (.bool true)], args := [d], vars := [g1] }
  | _ => none }
def fnExactIsMixedRow : OpenClaim := { program := "ytbppeepihlajoaadoor", sum := "7ffaa927bc8637c28c1e50bf5d98cbe186f832ec31b25f96ebbb42d3c717942c", func := "loop.example/g00044/laws.FnExactIsMixed", spec := "fnExactIsMixed", recurses := true, named := ["unicode/utf8.first", "unicode/utf8.acceptRanges", "loop.example/g00044/impl.digitRows"], apart := false, laid := [("unicode/utf8.acceptRanges", laid_unicode_utf8_acceptRanges), ("loop.example/g00044/impl.digitRows", laid_loop_example_g00044_impl_digitRows), ("unicode/utf8.first", laid_unicode_utf8_first)] }
def FnExactIsMixedSaid : Prop := fnExactIsMixedRow.holds Tryd.pinned (OpenSpec.ofChange fnExactIsMixedSpec)

/-- ITS FALSE NEIGHBOUR: 'it returns false'. Refute it at one input. -/
def fnExactIsMixedWrong : ChangeSpec := { name := "fnExactIsMixed", vars := ["loop.example/g00044/impl.digitRows"], fn := fun _ => fun
  | [d, g1] => { results := [.lit (.bool false)], args := [d], vars := [g1] }
  | _ => none }
def FnExactIsMixedWrongFalsely : Prop := fnExactIsMixedRow.holds Tryd.pinned (OpenSpec.ofChange fnExactIsMixedWrong)

/-- 'laws.FnExactLineCuts': WHATEVER THE INPUT: true; the input reads as it did. -/
def fnExactLineCutsSpec : ChangeSpec := { name := "fnExactLineCuts", fn := fun _ => fun
  | [d] => { results := [.lit (.bool true)], args := [d] }
  | _ => none }
def fnExactLineCutsRow : OpenClaim := { program := "ytbppeepihlajoaadoor", sum := "7ffaa927bc8637c28c1e50bf5d98cbe186f832ec31b25f96ebbb42d3c717942c", func := "loop.example/g00044/laws.FnExactLineCuts", spec := "fnExactLineCuts", unfollowed := true, recurses := true, named := ["unicode/utf8.first", "unicode/utf8.acceptRanges"], apart := false, laid := [("unicode/utf8.acceptRanges", laid_unicode_utf8_acceptRanges), ("unicode/utf8.first", laid_unicode_utf8_first)] }
def FnExactLineCutsSaid : Prop := fnExactLineCutsRow.holds Tryd.pinned (OpenSpec.ofChange fnExactLineCutsSpec)

/-- ITS FALSE NEIGHBOUR: 'it returns false'. Refute it at one input. -/
def fnExactLineCutsWrong : ChangeSpec := { name := "fnExactLineCuts", fn := fun _ => fun
  | [d] => { results := [.lit (.bool false)], args := [d] }
  | _ => none }
def FnExactLineCutsWrongFalsely : Prop := fnExactLineCutsRow.holds Tryd.pinned (OpenSpec.ofChange fnExactLineCutsWrong)

/-- 'laws.FnExactDistance': WHATEVER THE INPUT: true; the input reads as it did. -/
def fnExactDistanceSpec : ChangeSpec := { name := "fnExactDistance", fn := fun _ => fun
  | [d1, d2, d3] => { results := [.lit (.bool true)], args := [d1, d2, d3] }
  | _ => none }
def fnExactDistanceRow : OpenClaim := { program := "ytbppeepihlajoaadoor", sum := "7ffaa927bc8637c28c1e50bf5d98cbe186f832ec31b25f96ebbb42d3c717942c", func := "loop.example/g00044/laws.FnExactDistance", spec := "fnExactDistance", unfollowed := true, recurses := true, named := ["unicode/utf8.first", "unicode/utf8.acceptRanges"], apart := false, laid := [("unicode/utf8.acceptRanges", laid_unicode_utf8_acceptRanges), ("unicode/utf8.first", laid_unicode_utf8_first)] }
def FnExactDistanceSaid : Prop := fnExactDistanceRow.holds Tryd.pinned (OpenSpec.ofChange fnExactDistanceSpec)

/-- ITS FALSE NEIGHBOUR: 'it returns false'. Refute it at one input. -/
def fnExactDistanceWrong : ChangeSpec := { name := "fnExactDistance", fn := fun _ => fun
  | [d1, d2, d3] => { results := [.lit (.bool false)], args := [d1, d2, d3] }
  | _ => none }
def FnExactDistanceWrongFalsely : Prop := fnExactDistanceRow.holds Tryd.pinned (OpenSpec.ofChange fnExactDistanceWrong)

/-- 'laws.FnExactEditsOf': WHATEVER THE INPUT: true; the input reads as it did. -/
def fnExactEditsOfSpec : ChangeSpec := { name := "fnExactEditsOf", fn := fun _ => fun
  | [d1, d2, d3] => { results := [.lit (.bool true)], args := [d1, d2, d3] }
  | _ => none }
def fnExactEditsOfRow : OpenClaim := { program := "ytbppeepihlajoaadoor", sum := "7ffaa927bc8637c28c1e50bf5d98cbe186f832ec31b25f96ebbb42d3c717942c", func := "loop.example/g00044/laws.FnExactEditsOf", spec := "fnExactEditsOf", unfollowed := true, recurses := true, named := ["unicode/utf8.first", "unicode/utf8.acceptRanges"], apart := false, laid := [("unicode/utf8.acceptRanges", laid_unicode_utf8_acceptRanges), ("unicode/utf8.first", laid_unicode_utf8_first)] }
def FnExactEditsOfSaid : Prop := fnExactEditsOfRow.holds Tryd.pinned (OpenSpec.ofChange fnExactEditsOfSpec)

/-- ITS FALSE NEIGHBOUR: 'it returns false'. Refute it at one input. -/
def fnExactEditsOfWrong : ChangeSpec := { name := "fnExactEditsOf", fn := fun _ => fun
  | [d1, d2, d3] => { results := [.lit (.bool false)], args := [d1, d2, d3] }
  | _ => none }
def FnExactEditsOfWrongFalsely : Prop := fnExactEditsOfRow.holds Tryd.pinned (OpenSpec.ofChange fnExactEditsOfWrong)

/-- 'laws.FnEdits': WHATEVER THE INPUT: true; the input reads as it did. -/
def fnEditsSpec : ChangeSpec := { name := "fnEdits", fn := fun _ => fun
  | [d] => { results := [.lit (.bool true)], args := [d] }
  | _ => none }
def fnEditsRow : OpenClaim := { program := "ytbppeepihlajoaadoor", sum := "7ffaa927bc8637c28c1e50bf5d98cbe186f832ec31b25f96ebbb42d3c717942c", func := "loop.example/g00044/laws.FnEdits", spec := "fnEdits", unfollowed := true, recurses := true, named := ["unicode/utf8.first", "unicode/utf8.acceptRanges"], apart := false, laid := [("unicode/utf8.acceptRanges", laid_unicode_utf8_acceptRanges), ("unicode/utf8.first", laid_unicode_utf8_first)] }
def FnEditsSaid : Prop := fnEditsRow.holds Tryd.pinned (OpenSpec.ofChange fnEditsSpec)

/-- ITS FALSE NEIGHBOUR: 'it returns false'. Refute it at one input. -/
def fnEditsWrong : ChangeSpec := { name := "fnEdits", fn := fun _ => fun
  | [d] => { results := [.lit (.bool false)], args := [d] }
  | _ => none }
def FnEditsWrongFalsely : Prop := fnEditsRow.holds Tryd.pinned (OpenSpec.ofChange fnEditsWrong)

/-- 'laws.FnExactLineCutsBy': WHATEVER THE INPUT: true; the input reads as it did. -/
def fnExactLineCutsBySpec : ChangeSpec := { name := "fnExactLineCutsBy", fn := fun _ => fun
  | [d1, d2] => { results := [.lit (.bool true)], args := [d1, d2] }
  | _ => none }
def fnExactLineCutsByRow : OpenClaim := { program := "ytbppeepihlajoaadoor", sum := "7ffaa927bc8637c28c1e50bf5d98cbe186f832ec31b25f96ebbb42d3c717942c", func := "loop.example/g00044/laws.FnExactLineCutsBy", spec := "fnExactLineCutsBy", unfollowed := true, recurses := true, named := ["unicode/utf8.first", "unicode/utf8.acceptRanges"], apart := false, laid := [("unicode/utf8.acceptRanges", laid_unicode_utf8_acceptRanges), ("unicode/utf8.first", laid_unicode_utf8_first)] }
def FnExactLineCutsBySaid : Prop := fnExactLineCutsByRow.holds Tryd.pinned (OpenSpec.ofChange fnExactLineCutsBySpec)

/-- ITS FALSE NEIGHBOUR: 'it returns false'. Refute it at one input. -/
def fnExactLineCutsByWrong : ChangeSpec := { name := "fnExactLineCutsBy", fn := fun _ => fun
  | [d1, d2] => { results := [.lit (.bool false)], args := [d1, d2] }
  | _ => none }
def FnExactLineCutsByWrongFalsely : Prop := fnExactLineCutsByRow.holds Tryd.pinned (OpenSpec.ofChange fnExactLineCutsByWrong)

/-- 'laws.FnMoreLines': WHATEVER THE INPUT: true; the input reads as it did. -/
def fnMoreLinesSpec : ChangeSpec := { name := "fnMoreLines", fn := fun _ => fun
  | [d] => { results := [.lit (.bool true)], args := [d] }
  | _ => none }
def fnMoreLinesRow : OpenClaim := { program := "ytbppeepihlajoaadoor", sum := "7ffaa927bc8637c28c1e50bf5d98cbe186f832ec31b25f96ebbb42d3c717942c", func := "loop.example/g00044/laws.FnMoreLines", spec := "fnMoreLines", unfollowed := true, recurses := true, named := ["unicode/utf8.first", "unicode/utf8.acceptRanges"], apart := false, laid := [("unicode/utf8.acceptRanges", laid_unicode_utf8_acceptRanges), ("unicode/utf8.first", laid_unicode_utf8_first)] }
def FnMoreLinesSaid : Prop := fnMoreLinesRow.holds Tryd.pinned (OpenSpec.ofChange fnMoreLinesSpec)

/-- ITS FALSE NEIGHBOUR: 'it returns false'. Refute it at one input. -/
def fnMoreLinesWrong : ChangeSpec := { name := "fnMoreLines", fn := fun _ => fun
  | [d] => { results := [.lit (.bool false)], args := [d] }
  | _ => none }
def FnMoreLinesWrongFalsely : Prop := fnMoreLinesRow.holds Tryd.pinned (OpenSpec.ofChange fnMoreLinesWrong)

/- THE SECOND FORM. 'bulk': how many values and letters a reading holds, each counted each time it is reached (what is shared counts as often as it is met; a slice's spare places count too). A statement '..UptoSaid' is the law's where the arguments, and the package variables that the reading takes, are together of bulk at most 1048576: NARROWER than '..Said'. Prove '..Said' where nothing that the law and all that it calls make is longer than what came in: it says more and counts as full. Else prove '..UptoSaid'. A law counts once. -/
mutual
def uptoBulk {H : Type} : DataW H → Nat
  | .lit (.string bytes) => bytes.length + 1
  | .lit _ => 1
  | .nil => 1
  | .ptr d => uptoBulk d + 1
  | .slice elems spare => uptoBulkAll elems + uptoBulkAll spare + 1
  | .agg parts => uptoBulkAll parts + 1
  | .iface _ d => uptoBulk d + 1
  | .map entries => uptoBulkEntries entries + 1
  | .held _ => 1
def uptoBulkAll {H : Type} : List (DataW H) → Nat
  | [] => 0
  | d :: r => uptoBulk d + uptoBulkAll r
def uptoBulkEntries {H : Type} : List (Lit × DataW H) → Nat
  | [] => 0
  | x :: r => uptoBulkEntry x + uptoBulkEntries r
def uptoBulkEntry {H : Type} : Lit × DataW H → Nat
  | (.string bytes, d) => bytes.length + uptoBulk d + 1
  | (_, d) => uptoBulk d + 1
 end
def uptoSmall : (H : Type) → List (DataW H) → Bool := fun _ ds => decide (uptoBulkAll ds ≤ 1048576)
def OpenSpec.upto (s : _root_.Go.ChangeSpec) : _root_.Go.OpenSpec := { _root_.Go.OpenSpec.ofChange s with cond := some uptoSmall }

/-- 'laws.FnLabels', WHERE WHAT IT READS IS OF BULK AT MOST 1048576: true; the input reads as it did. -/
def fnLabelsUptoRow : OpenClaim := { program := "ytbppeepihlajoaadoor", sum := "7ffaa927bc8637c28c1e50bf5d98cbe186f832ec31b25f96ebbb42d3c717942c", func := "loop.example/g00044/laws.FnLabels", spec := "fnLabels", inPlace := ["internal/bytealg.IndexByteString", "slices.overlaps[int64]"], named := ["unicode/utf8.first", "unicode/utf8.acceptRanges"], apart := false, laid := [("unicode/utf8.acceptRanges", laid_unicode_utf8_acceptRanges), ("unicode/utf8.first", laid_unicode_utf8_first)], narrowed := true }
def FnLabelsUptoSaid : Prop := fnLabelsUptoRow.holds Tryd.pinned (OpenSpec.upto fnLabelsSpec)

/-- 'laws.FnExactIsMixed', WHERE WHAT IT READS IS OF BULK AT MOST 1048576: true; the input reads as it did. -/
def fnExactIsMixedUptoRow : OpenClaim := { program := "ytbppeepihlajoaadoor", sum := "7ffaa927bc8637c28c1e50bf5d98cbe186f832ec31b25f96ebbb42d3c717942c", func := "loop.example/g00044/laws.FnExactIsMixed", spec := "fnExactIsMixed", recurses := true, named := ["unicode/utf8.first", "unicode/utf8.acceptRanges", "loop.example/g00044/impl.digitRows"], apart := false, laid := [("unicode/utf8.acceptRanges", laid_unicode_utf8_acceptRanges), ("loop.example/g00044/impl.digitRows", laid_loop_example_g00044_impl_digitRows), ("unicode/utf8.first", laid_unicode_utf8_first)], narrowed := true }
def FnExactIsMixedUptoSaid : Prop := fnExactIsMixedUptoRow.holds Tryd.pinned (OpenSpec.upto fnExactIsMixedSpec)

/-- 'laws.FnExactLineCuts', WHERE WHAT IT READS IS OF BULK AT MOST 1048576: true; the input reads as it did. -/
def fnExactLineCutsUptoRow : OpenClaim := { program := "ytbppeepihlajoaadoor", sum := "7ffaa927bc8637c28c1e50bf5d98cbe186f832ec31b25f96ebbb42d3c717942c", func := "loop.example/g00044/laws.FnExactLineCuts", spec := "fnExactLineCuts", unfollowed := true, recurses := true, named := ["unicode/utf8.first", "unicode/utf8.acceptRanges"], apart := false, laid := [("unicode/utf8.acceptRanges", laid_unicode_utf8_acceptRanges), ("unicode/utf8.first", laid_unicode_utf8_first)], narrowed := true }
def FnExactLineCutsUptoSaid : Prop := fnExactLineCutsUptoRow.holds Tryd.pinned (OpenSpec.upto fnExactLineCutsSpec)

/-- 'laws.FnExactDistance', WHERE WHAT IT READS IS OF BULK AT MOST 1048576: true; the input reads as it did. -/
def fnExactDistanceUptoRow : OpenClaim := { program := "ytbppeepihlajoaadoor", sum := "7ffaa927bc8637c28c1e50bf5d98cbe186f832ec31b25f96ebbb42d3c717942c", func := "loop.example/g00044/laws.FnExactDistance", spec := "fnExactDistance", unfollowed := true, recurses := true, named := ["unicode/utf8.first", "unicode/utf8.acceptRanges"], apart := false, laid := [("unicode/utf8.acceptRanges", laid_unicode_utf8_acceptRanges), ("unicode/utf8.first", laid_unicode_utf8_first)], narrowed := true }
def FnExactDistanceUptoSaid : Prop := fnExactDistanceUptoRow.holds Tryd.pinned (OpenSpec.upto fnExactDistanceSpec)

/-- 'laws.FnExactEditsOf', WHERE WHAT IT READS IS OF BULK AT MOST 1048576: true; the input reads as it did. -/
def fnExactEditsOfUptoRow : OpenClaim := { program := "ytbppeepihlajoaadoor", sum := "7ffaa927bc8637c28c1e50bf5d98cbe186f832ec31b25f96ebbb42d3c717942c", func := "loop.example/g00044/laws.FnExactEditsOf", spec := "fnExactEditsOf", unfollowed := true, recurses := true, named := ["unicode/utf8.first", "unicode/utf8.acceptRanges"], apart := false, laid := [("unicode/utf8.acceptRanges", laid_unicode_utf8_acceptRanges), ("unicode/utf8.first", laid_unicode_utf8_first)], narrowed := true }
def FnExactEditsOfUptoSaid : Prop := fnExactEditsOfUptoRow.holds Tryd.pinned (OpenSpec.upto fnExactEditsOfSpec)

/-- 'laws.FnEdits', WHERE WHAT IT READS IS OF BULK AT MOST 1048576: true; the input reads as it did. -/
def fnEditsUptoRow : OpenClaim := { program := "ytbppeepihlajoaadoor", sum := "7ffaa927bc8637c28c1e50bf5d98cbe186f832ec31b25f96ebbb42d3c717942c", func := "loop.example/g00044/laws.FnEdits", spec := "fnEdits", unfollowed := true, recurses := true, named := ["unicode/utf8.first", "unicode/utf8.acceptRanges"], apart := false, laid := [("unicode/utf8.acceptRanges", laid_unicode_utf8_acceptRanges), ("unicode/utf8.first", laid_unicode_utf8_first)], narrowed := true }
def FnEditsUptoSaid : Prop := fnEditsUptoRow.holds Tryd.pinned (OpenSpec.upto fnEditsSpec)

/-- 'laws.FnExactLineCutsBy', WHERE WHAT IT READS IS OF BULK AT MOST 1048576: true; the input reads as it did. -/
def fnExactLineCutsByUptoRow : OpenClaim := { program := "ytbppeepihlajoaadoor", sum := "7ffaa927bc8637c28c1e50bf5d98cbe186f832ec31b25f96ebbb42d3c717942c", func := "loop.example/g00044/laws.FnExactLineCutsBy", spec := "fnExactLineCutsBy", unfollowed := true, recurses := true, named := ["unicode/utf8.first", "unicode/utf8.acceptRanges"], apart := false, laid := [("unicode/utf8.acceptRanges", laid_unicode_utf8_acceptRanges), ("unicode/utf8.first", laid_unicode_utf8_first)], narrowed := true }
def FnExactLineCutsByUptoSaid : Prop := fnExactLineCutsByUptoRow.holds Tryd.pinned (OpenSpec.upto fnExactLineCutsBySpec)

/-- 'laws.FnMoreLines', WHERE WHAT IT READS IS OF BULK AT MOST 1048576: true; the input reads as it did. -/
def fnMoreLinesUptoRow : OpenClaim := { program := "ytbppeepihlajoaadoor", sum := "7ffaa927bc8637c28c1e50bf5d98cbe186f832ec31b25f96ebbb42d3c717942c", func := "loop.example/g00044/laws.FnMoreLines", spec := "fnMoreLines", unfollowed := true, recurses := true, named := ["unicode/utf8.first", "unicode/utf8.acceptRanges"], apart := false, laid := [("unicode/utf8.acceptRanges", laid_unicode_utf8_acceptRanges), ("unicode/utf8.first", laid_unicode_utf8_first)], narrowed := true }
def FnMoreLinesUptoSaid : Prop := fnMoreLinesUptoRow.holds Tryd.pinned (OpenSpec.upto fnMoreLinesSpec)

end Rows
end Go.Proofs.YtbppeepihlajoaaDoor
