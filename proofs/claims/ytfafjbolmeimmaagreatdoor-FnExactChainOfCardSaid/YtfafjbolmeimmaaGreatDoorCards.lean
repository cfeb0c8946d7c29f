/-
  DERIVED. GIVEN WITH THE SEED: THE CARDS: each row of YtfafjbolmeimmaaGreatDoorRows.lean that lists a variable, with what it lists TIED to the program's text (the seventh form; the later family's looks); each row that meets fmt, with fmt's text TOLD by the authors' own Lean function (tested against real Go, not proved from fmt's source: count such statements apart). THE CARD IS WHAT COUNTS. Prove the row's statement (the work); the ties are given (YtfafjbolmeimmaaGreatDoorTie.lean); close each card by the builder's one call (the guide's Derived/Test/ToyasCard.lean, 'card_holds'). Laid BY PROGRAM, IN A SANDBOX (cutbox-door.mjs). By AI agents, Wed Nov 11 2026. No macro, syntax, notation, axiom, sorry.
-/
import Derived.Test.YtfafjbolmeimmaaGreatDoorRows
import GoSem.ClaimSeven
namespace Go.Proofs.YtfafjbolmeimmaaGreatDoor
namespace Rows

/-- THE TIED CARD OF 'laws.FnExactLocaleFault'. -/
def fnExactLocaleFaultCard : Claim7 := { stood := { row := fnExactLocaleFaultRow, standIns := [], harness := (true, "5f816f3c081655d762be4d4d0b70d733e38fa3e4fd1f1fee356e5324cc45306b"), looks := true }, kinds := [], alts := [], laidByText := true, laidKinds := [.data, .data, .data, .data, .sentinel, .sentinel, .pinned], laidTests := true, laidLooks := .later }
def FnExactLocaleFaultCardSaid : Prop := Claim7.holds Tryz.pinned (.plain (OpenSpec.ofChange fnExactLocaleFaultSpec)) fnExactLocaleFaultCard

/-- THE TIED CARD OF 'laws.FnExactLocalesFault'. -/
def fnExactLocalesFaultCard : Claim7 := { stood := { row := fnExactLocalesFaultRow, standIns := [], harness := (true, "5f816f3c081655d762be4d4d0b70d733e38fa3e4fd1f1fee356e5324cc45306b"), looks := true }, kinds := [], alts := [], laidByText := true, laidKinds := [.data, .data, .data, .data, .sentinel, .sentinel, .pinned], laidTests := true, laidLooks := .later }
def FnExactLocalesFaultCardSaid : Prop := Claim7.holds Tryz.pinned (.plain (OpenSpec.ofChange fnExactLocalesFaultSpec)) fnExactLocalesFaultCard

/-- THE TIED CARD OF 'laws.FnExactListText'. -/
def fnExactListTextCard : Claim7 := { stood := { row := fnExactListTextRow, standIns := [], harness := (true, "5f816f3c081655d762be4d4d0b70d733e38fa3e4fd1f1fee356e5324cc45306b"), looks := true }, kinds := [], alts := [], laidByText := true, laidKinds := [.data, .data, .data, .data, .sentinel, .sentinel, .pinned], laidTests := true, laidLooks := .later }
def FnExactListTextCardSaid : Prop := Claim7.holds Tryz.pinned (.plain (OpenSpec.ofChange fnExactListTextSpec)) fnExactListTextCard

/-- THE TIED CARD OF 'laws.FnExactPluralOf'. -/
def fnExactPluralOfCard : Claim7 := { stood := { row := fnExactPluralOfRow, standIns := [], harness := (true, "5f816f3c081655d762be4d4d0b70d733e38fa3e4fd1f1fee356e5324cc45306b"), looks := true }, kinds := [], alts := [], laidByText := true, laidKinds := [.data, .data, .data, .data, .sentinel, .sentinel, .pinned], laidTests := true, laidLooks := .later }
def FnExactPluralOfCardSaid : Prop := Claim7.holds Tryz.pinned (.plain (OpenSpec.ofChange fnExactPluralOfSpec)) fnExactPluralOfCard

/-- THE TIED CARD OF 'laws.FnExactChainOf'. -/
def fnExactChainOfCard : Claim7 := { stood := { row := fnExactChainOfRow, standIns := [], harness := (true, "5f816f3c081655d762be4d4d0b70d733e38fa3e4fd1f1fee356e5324cc45306b"), looks := true }, kinds := [], alts := [], laidByText := true, laidKinds := [.data, .data, .data, .data, .sentinel, .sentinel, .pinned], laidTests := true, laidLooks := .later }
def FnExactChainOfCardSaid : Prop := Claim7.holds Tryz.pinned (.plain (OpenSpec.ofChange fnExactChainOfSpec)) fnExactChainOfCard

/-- THE SECOND FORM's CARD OF 'laws.FnExactLocaleFault'. -/
def fnExactLocaleFaultUptoCard : Claim7 := { stood := { row := fnExactLocaleFaultUptoRow, standIns := [], harness := (true, "5f816f3c081655d762be4d4d0b70d733e38fa3e4fd1f1fee356e5324cc45306b"), looks := true }, kinds := [], alts := [], laidByText := true, laidKinds := [.data, .data, .data, .data, .sentinel, .sentinel, .pinned], laidTests := true, laidLooks := .later }
def FnExactLocaleFaultUptoCardSaid : Prop := Claim7.holds Tryz.pinned (.plain (OpenSpec.upto fnExactLocaleFaultSpec)) fnExactLocaleFaultUptoCard

/-- THE SECOND FORM's CARD OF 'laws.FnExactLocalesFault'. -/
def fnExactLocalesFaultUptoCard : Claim7 := { stood := { row := fnExactLocalesFaultUptoRow, standIns := [], harness := (true, "5f816f3c081655d762be4d4d0b70d733e38fa3e4fd1f1fee356e5324cc45306b"), looks := true }, kinds := [], alts := [], laidByText := true, laidKinds := [.data, .data, .data, .data, .sentinel, .sentinel, .pinned], laidTests := true, laidLooks := .later }
def FnExactLocalesFaultUptoCardSaid : Prop := Claim7.holds Tryz.pinned (.plain (OpenSpec.upto fnExactLocalesFaultSpec)) fnExactLocalesFaultUptoCard

/-- THE SECOND FORM's CARD OF 'laws.FnExactListText'. -/
def fnExactListTextUptoCard : Claim7 := { stood := { row := fnExactListTextUptoRow, standIns := [], harness := (true, "5f816f3c081655d762be4d4d0b70d733e38fa3e4fd1f1fee356e5324cc45306b"), looks := true }, kinds := [], alts := [], laidByText := true, laidKinds := [.data, .data, .data, .data, .sentinel, .sentinel, .pinned], laidTests := true, laidLooks := .later }
def FnExactListTextUptoCardSaid : Prop := Claim7.holds Tryz.pinned (.plain (OpenSpec.upto fnExactListTextSpec)) fnExactListTextUptoCard

/-- THE SECOND FORM's CARD OF 'laws.FnExactPluralOf'. -/
def fnExactPluralOfUptoCard : Claim7 := { stood := { row := fnExactPluralOfUptoRow, standIns := [], harness := (true, "5f816f3c081655d762be4d4d0b70d733e38fa3e4fd1f1fee356e5324cc45306b"), looks := true }, kinds := [], alts := [], laidByText := true, laidKinds := [.data, .data, .data, .data, .sentinel, .sentinel, .pinned], laidTests := true, laidLooks := .later }
def FnExactPluralOfUptoCardSaid : Prop := Claim7.holds Tryz.pinned (.plain (OpenSpec.upto fnExactPluralOfSpec)) fnExactPluralOfUptoCard

/-- THE SECOND FORM's CARD OF 'laws.FnExactChainOf'. -/
def fnExactChainOfUptoCard : Claim7 := { stood := { row := fnExactChainOfUptoRow, standIns := [], harness := (true, "5f816f3c081655d762be4d4d0b70d733e38fa3e4fd1f1fee356e5324cc45306b"), looks := true }, kinds := [], alts := [], laidByText := true, laidKinds := [.data, .data, .data, .data, .sentinel, .sentinel, .pinned], laidTests := true, laidLooks := .later }
def FnExactChainOfUptoCardSaid : Prop := Claim7.holds Tryz.pinned (.plain (OpenSpec.upto fnExactChainOfSpec)) fnExactChainOfUptoCard
end Rows
end Go.Proofs.YtfafjbolmeimmaaGreatDoor
