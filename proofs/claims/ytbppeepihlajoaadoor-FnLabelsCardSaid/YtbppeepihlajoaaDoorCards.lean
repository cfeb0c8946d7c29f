/-
  DERIVED. GIVEN WITH THE SEED: THE CARDS: each row of YtbppeepihlajoaaDoorRows.lean that lists a variable, with what it lists TIED to the program's text (the seventh form; the later family's looks); each row that meets fmt, with fmt's text TOLD by the authors' own Lean function (tested against real Go, not proved from fmt's source: count such statements apart). THE CARD IS WHAT COUNTS. Prove the row's statement (the work); the ties are given (YtbppeepihlajoaaDoorTie.lean); close each card by the builder's one call (the guide's Derived/Test/ToyasCard.lean, 'card_holds'). Laid BY PROGRAM, IN A SANDBOX (cutbox-door.mjs). By AI agents, Wed Nov 11 2026. No macro, syntax, notation, axiom, sorry.
-/
import Derived.Test.YtbppeepihlajoaaDoorRows
import GoSem.ClaimSeven
namespace Go.Proofs.YtbppeepihlajoaaDoor
namespace Rows

/-- THE TIED CARD OF 'laws.FnLabels'. -/
def fnLabelsCard : Claim7 := { stood := { row := fnLabelsRow, standIns := [], harness := (true, "2a24567b0ab3a267aeb6010f427917ed408dca682b5d3d93c2eef5be2ba2f9e9"), looks := false }, kinds := [], alts := [], laidByText := true, laidKinds := [.data, .pinned], laidTests := true, laidLooks := .later }
def FnLabelsCardSaid : Prop := Claim7.holds Tryd.pinned (.plain (OpenSpec.ofChange fnLabelsSpec)) fnLabelsCard

/-- THE TIED CARD OF 'laws.FnExactIsMixed'. -/
def fnExactIsMixedCard : Claim7 := { stood := { row := fnExactIsMixedRow, standIns := [], harness := (true, "2a24567b0ab3a267aeb6010f427917ed408dca682b5d3d93c2eef5be2ba2f9e9"), looks := false }, kinds := [], alts := [], laidByText := true, laidKinds := [.data, .data, .pinned], laidTests := true, laidLooks := .later }
def FnExactIsMixedCardSaid : Prop := Claim7.holds Tryd.pinned (.plain (OpenSpec.ofChange fnExactIsMixedSpec)) fnExactIsMixedCard

/-- THE TIED CARD OF 'laws.FnExactLineCuts'. -/
def fnExactLineCutsCard : Claim7 := { stood := { row := fnExactLineCutsRow, standIns := [], harness := (true, "2a24567b0ab3a267aeb6010f427917ed408dca682b5d3d93c2eef5be2ba2f9e9"), looks := false }, kinds := [], alts := [], laidByText := true, laidKinds := [.data, .pinned], laidTests := true, laidLooks := .later }
def FnExactLineCutsCardSaid : Prop := Claim7.holds Tryd.pinned (.plain (OpenSpec.ofChange fnExactLineCutsSpec)) fnExactLineCutsCard

/-- THE TIED CARD OF 'laws.FnExactDistance'. -/
def fnExactDistanceCard : Claim7 := { stood := { row := fnExactDistanceRow, standIns := [], harness := (true, "2a24567b0ab3a267aeb6010f427917ed408dca682b5d3d93c2eef5be2ba2f9e9"), looks := false }, kinds := [], alts := [], laidByText := true, laidKinds := [.data, .pinned], laidTests := true, laidLooks := .later }
def FnExactDistanceCardSaid : Prop := Claim7.holds Tryd.pinned (.plain (OpenSpec.ofChange fnExactDistanceSpec)) fnExactDistanceCard

/-- THE TIED CARD OF 'laws.FnExactEditsOf'. -/
def fnExactEditsOfCard : Claim7 := { stood := { row := fnExactEditsOfRow, standIns := [], harness := (true, "2a24567b0ab3a267aeb6010f427917ed408dca682b5d3d93c2eef5be2ba2f9e9"), looks := false }, kinds := [], alts := [], laidByText := true, laidKinds := [.data, .pinned], laidTests := true, laidLooks := .later }
def FnExactEditsOfCardSaid : Prop := Claim7.holds Tryd.pinned (.plain (OpenSpec.ofChange fnExactEditsOfSpec)) fnExactEditsOfCard

/-- THE TIED CARD OF 'laws.FnEdits'. -/
def fnEditsCard : Claim7 := { stood := { row := fnEditsRow, standIns := [], harness := (true, "2a24567b0ab3a267aeb6010f427917ed408dca682b5d3d93c2eef5be2ba2f9e9"), looks := false }, kinds := [], alts := [], laidByText := true, laidKinds := [.data, .pinned], laidTests := true, laidLooks := .later }
def FnEditsCardSaid : Prop := Claim7.holds Tryd.pinned (.plain (OpenSpec.ofChange fnEditsSpec)) fnEditsCard

/-- THE TIED CARD OF 'laws.FnExactLineCutsBy'. -/
def fnExactLineCutsByCard : Claim7 := { stood := { row := fnExactLineCutsByRow, standIns := [], harness := (true, "2a24567b0ab3a267aeb6010f427917ed408dca682b5d3d93c2eef5be2ba2f9e9"), looks := false }, kinds := [], alts := [], laidByText := true, laidKinds := [.data, .pinned], laidTests := true, laidLooks := .later }
def FnExactLineCutsByCardSaid : Prop := Claim7.holds Tryd.pinned (.plain (OpenSpec.ofChange fnExactLineCutsBySpec)) fnExactLineCutsByCard

/-- THE TIED CARD OF 'laws.FnMoreLines'. -/
def fnMoreLinesCard : Claim7 := { stood := { row := fnMoreLinesRow, standIns := [], harness := (true, "2a24567b0ab3a267aeb6010f427917ed408dca682b5d3d93c2eef5be2ba2f9e9"), looks := false }, kinds := [], alts := [], laidByText := true, laidKinds := [.data, .pinned], laidTests := true, laidLooks := .later }
def FnMoreLinesCardSaid : Prop := Claim7.holds Tryd.pinned (.plain (OpenSpec.ofChange fnMoreLinesSpec)) fnMoreLinesCard

/-- THE SECOND FORM's CARD OF 'laws.FnLabels'. -/
def fnLabelsUptoCard : Claim7 := { stood := { row := fnLabelsUptoRow, standIns := [], harness := (true, "2a24567b0ab3a267aeb6010f427917ed408dca682b5d3d93c2eef5be2ba2f9e9"), looks := false }, kinds := [], alts := [], laidByText := true, laidKinds := [.data, .pinned], laidTests := true, laidLooks := .later }
def FnLabelsUptoCardSaid : Prop := Claim7.holds Tryd.pinned (.plain (OpenSpec.upto fnLabelsSpec)) fnLabelsUptoCard

/-- THE SECOND FORM's CARD OF 'laws.FnExactIsMixed'. -/
def fnExactIsMixedUptoCard : Claim7 := { stood := { row := fnExactIsMixedUptoRow, standIns := [], harness := (true, "2a24567b0ab3a267aeb6010f427917ed408dca682b5d3d93c2eef5be2ba2f9e9"), looks := false }, kinds := [], alts := [], laidByText := true, laidKinds := [.data, .data, .pinned], laidTests := true, laidLooks := .later }
def FnExactIsMixedUptoCardSaid : Prop := Claim7.holds Tryd.pinned (.plain (OpenSpec.upto fnExactIsMixedSpec)) fnExactIsMixedUptoCard

/-- THE SECOND FORM's CARD OF 'laws.FnExactLineCuts'. -/
def fnExactLineCutsUptoCard : Claim7 := { stood := { row := fnExactLineCutsUptoRow, standIns := [], harness := (true, "2a24567b0ab3a267aeb6010f427917ed408dca682b5d3d93c2eef5be2ba2f9e9"), looks := false }, kinds := [], alts := [], laidByText := true, laidKinds := [.data, .pinned], laidTests := true, laidLooks := .later }
def FnExactLineCutsUptoCardSaid : Prop := Claim7.holds Tryd.pinned (.plain (OpenSpec.upto fnExactLineCutsSpec)) fnExactLineCutsUptoCard

/-- THE SECOND FORM's CARD OF 'laws.FnExactDistance'. -/
def fnExactDistanceUptoCard : Claim7 := { stood := { row := fnExactDistanceUptoRow, standIns := [], harness := (true, "2a24567b0ab3a267aeb6010f427917ed408dca682b5d3d93c2eef5be2ba2f9e9"), looks := false }, kinds := [], alts := [], laidByText := true, laidKinds := [.data, .pinned], laidTests := true, laidLooks := .later }
def FnExactDistanceUptoCardSaid : Prop := Claim7.holds Tryd.pinned (.plain (OpenSpec.upto fnExactDistanceSpec)) fnExactDistanceUptoCard

/-- THE SECOND FORM's CARD OF 'laws.FnExactEditsOf'. -/
def fnExactEditsOfUptoCard : Claim7 := { stood := { row := fnExactEditsOfUptoRow, standIns := [], harness := (true, "2a24567b0ab3a267aeb6010f427917ed408dca682b5d3d93c2eef5be2ba2f9e9"), looks := false }, kinds := [], alts := [], laidByText := true, laidKinds := [.data, .pinned], laidTests := true, laidLooks := .later }
def FnExactEditsOfUptoCardSaid : Prop := Claim7.holds Tryd.pinned (.plain (OpenSpec.upto fnExactEditsOfSpec)) fnExactEditsOfUptoCard

/-- THE SECOND FORM's CARD OF 'laws.FnEdits'. -/
def fnEditsUptoCard : Claim7 := { stood := { row := fnEditsUptoRow, standIns := [], harness := (true, "2a24567b0ab3a267aeb6010f427917ed408dca682b5d3d93c2eef5be2ba2f9e9"), looks := false }, kinds := [], alts := [], laidByText := true, laidKinds := [.data, .pinned], laidTests := true, laidLooks := .later }
def FnEditsUptoCardSaid : Prop := Claim7.holds Tryd.pinned (.plain (OpenSpec.upto fnEditsSpec)) fnEditsUptoCard

/-- THE SECOND FORM's CARD OF 'laws.FnExactLineCutsBy'. -/
def fnExactLineCutsByUptoCard : Claim7 := { stood := { row := fnExactLineCutsByUptoRow, standIns := [], harness := (true, "2a24567b0ab3a267aeb6010f427917ed408dca682b5d3d93c2eef5be2ba2f9e9"), looks := false }, kinds := [], alts := [], laidByText := true, laidKinds := [.data, .pinned], laidTests := true, laidLooks := .later }
def FnExactLineCutsByUptoCardSaid : Prop := Claim7.holds Tryd.pinned (.plain (OpenSpec.upto fnExactLineCutsBySpec)) fnExactLineCutsByUptoCard

/-- THE SECOND FORM's CARD OF 'laws.FnMoreLines'. -/
def fnMoreLinesUptoCard : Claim7 := { stood := { row := fnMoreLinesUptoRow, standIns := [], harness := (true, "2a24567b0ab3a267aeb6010f427917ed408dca682b5d3d93c2eef5be2ba2f9e9"), looks := false }, kinds := [], alts := [], laidByText := true, laidKinds := [.data, .pinned], laidTests := true, laidLooks := .later }
def FnMoreLinesUptoCardSaid : Prop := Claim7.holds Tryd.pinned (.plain (OpenSpec.upto fnMoreLinesSpec)) fnMoreLinesUptoCard
end Rows
end Go.Proofs.YtbppeepihlajoaaDoor
