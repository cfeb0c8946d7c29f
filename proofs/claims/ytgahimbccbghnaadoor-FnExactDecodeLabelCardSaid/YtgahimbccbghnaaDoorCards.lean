/-
  DERIVED. GIVEN WITH THE SEED: THE CARDS: each row of YtgahimbccbghnaaDoorRows.lean that lists a variable, with what it lists TIED to the program's text (the seventh form; the later family's looks); each row that meets fmt, with fmt's text TOLD by the authors' own Lean function (tested against real Go, not proved from fmt's source: count such statements apart). THE CARD IS WHAT COUNTS. Prove the row's statement (the work); the ties are given (YtgahimbccbghnaaDoorTie.lean); close each card by the builder's one call (the guide's Derived/Test/ToyasCard.lean, 'card_holds'). Laid BY PROGRAM, IN A SANDBOX (cutbox-door.mjs). By AI agents, Wed Nov 11 2026. No macro, syntax, notation, axiom, sorry.
-/
import Derived.Test.YtgahimbccbghnaaDoorRows
import GoSem.ClaimSeven
namespace Go.Proofs.YtgahimbccbghnaaDoor
namespace Rows

/-- THE TIED CARD OF 'laws.FnExactCostsFault'. -/
def fnExactCostsFaultCard : Claim7 := { stood := { row := fnExactCostsFaultRow, standIns := [], harness := (true, "02bb80bd8c4022a46f70505d4c00847abab7be3bf04b36c9bd37daa8112ab4ea"), looks := false }, kinds := [], alts := [], laidByText := true, laidKinds := [.data, .pinned], laidTests := true, laidLooks := .later }
def FnExactCostsFaultCardSaid : Prop := Claim7.holds Tryd.pinned (.plain (OpenSpec.ofChange fnExactCostsFaultSpec)) fnExactCostsFaultCard

/-- THE TIED CARD OF 'laws.FnExactEncodeLabel'. -/
def fnExactEncodeLabelCard : Claim7 := { stood := { row := fnExactEncodeLabelRow, standIns := [], harness := (true, "02bb80bd8c4022a46f70505d4c00847abab7be3bf04b36c9bd37daa8112ab4ea"), looks := false }, kinds := [], alts := [], laidByText := true, laidKinds := [.data, .pinned], laidTests := true, laidLooks := .later }
def FnExactEncodeLabelCardSaid : Prop := Claim7.holds Tryd.pinned (.plain (OpenSpec.ofChange fnExactEncodeLabelSpec)) fnExactEncodeLabelCard

/-- THE TIED CARD OF 'laws.FnExactDecodeLabel'. -/
def fnExactDecodeLabelCard : Claim7 := { stood := { row := fnExactDecodeLabelRow, standIns := [], harness := (true, "02bb80bd8c4022a46f70505d4c00847abab7be3bf04b36c9bd37daa8112ab4ea"), looks := false }, kinds := [], alts := [], laidByText := true, laidKinds := [.data, .pinned], laidTests := true, laidLooks := .later }
def FnExactDecodeLabelCardSaid : Prop := Claim7.holds Tryd.pinned (.plain (OpenSpec.ofChange fnExactDecodeLabelSpec)) fnExactDecodeLabelCard

/-- THE TIED CARD OF 'laws.FnStream'. -/
def fnStreamCard : Claim7 := { stood := { row := fnStreamRow, standIns := [], harness := (true, "02bb80bd8c4022a46f70505d4c00847abab7be3bf04b36c9bd37daa8112ab4ea"), looks := false }, kinds := [], alts := [], laidByText := true, laidKinds := [.data, .pinned], laidTests := true, laidLooks := .later }
def FnStreamCardSaid : Prop := Claim7.holds Tryd.pinned (.plain (OpenSpec.ofChange fnStreamSpec)) fnStreamCard

/-- THE TIED CARD OF 'laws.FnExactScriptsOf'. -/
def fnExactScriptsOfCard : Claim7 := { stood := { row := fnExactScriptsOfRow, standIns := [], harness := (true, "02bb80bd8c4022a46f70505d4c00847abab7be3bf04b36c9bd37daa8112ab4ea"), looks := false }, kinds := [], alts := [], laidByText := true, laidKinds := [.data, .pinned], laidTests := true, laidLooks := .later }
def FnExactScriptsOfCardSaid : Prop := Claim7.holds Tryd.pinned (.plain (OpenSpec.ofChange fnExactScriptsOfSpec)) fnExactScriptsOfCard

/-- THE TIED CARD OF 'laws.FnExactMessageFault'. -/
def fnExactMessageFaultCard : Claim7 := { stood := { row := fnExactMessageFaultRow, standIns := [], harness := (true, "02bb80bd8c4022a46f70505d4c00847abab7be3bf04b36c9bd37daa8112ab4ea"), looks := false }, kinds := [], alts := [], laidByText := true, laidKinds := [.data, .data, .data], laidTests := true, laidLooks := .later }
def FnExactMessageFaultCardSaid : Prop := Claim7.holds Tryd.pinned (.plain (OpenSpec.ofChange fnExactMessageFaultSpec)) fnExactMessageFaultCard

/-- THE SECOND FORM's CARD OF 'laws.FnExactCostsFault'. -/
def fnExactCostsFaultUptoCard : Claim7 := { stood := { row := fnExactCostsFaultUptoRow, standIns := [], harness := (true, "02bb80bd8c4022a46f70505d4c00847abab7be3bf04b36c9bd37daa8112ab4ea"), looks := false }, kinds := [], alts := [], laidByText := true, laidKinds := [.data, .pinned], laidTests := true, laidLooks := .later }
def FnExactCostsFaultUptoCardSaid : Prop := Claim7.holds Tryd.pinned (.plain (OpenSpec.upto fnExactCostsFaultSpec)) fnExactCostsFaultUptoCard

/-- THE SECOND FORM's CARD OF 'laws.FnExactEncodeLabel'. -/
def fnExactEncodeLabelUptoCard : Claim7 := { stood := { row := fnExactEncodeLabelUptoRow, standIns := [], harness := (true, "02bb80bd8c4022a46f70505d4c00847abab7be3bf04b36c9bd37daa8112ab4ea"), looks := false }, kinds := [], alts := [], laidByText := true, laidKinds := [.data, .pinned], laidTests := true, laidLooks := .later }
def FnExactEncodeLabelUptoCardSaid : Prop := Claim7.holds Tryd.pinned (.plain (OpenSpec.upto fnExactEncodeLabelSpec)) fnExactEncodeLabelUptoCard

/-- THE SECOND FORM's CARD OF 'laws.FnExactDecodeLabel'. -/
def fnExactDecodeLabelUptoCard : Claim7 := { stood := { row := fnExactDecodeLabelUptoRow, standIns := [], harness := (true, "02bb80bd8c4022a46f70505d4c00847abab7be3bf04b36c9bd37daa8112ab4ea"), looks := false }, kinds := [], alts := [], laidByText := true, laidKinds := [.data, .pinned], laidTests := true, laidLooks := .later }
def FnExactDecodeLabelUptoCardSaid : Prop := Claim7.holds Tryd.pinned (.plain (OpenSpec.upto fnExactDecodeLabelSpec)) fnExactDecodeLabelUptoCard

/-- THE SECOND FORM's CARD OF 'laws.FnStream'. -/
def fnStreamUptoCard : Claim7 := { stood := { row := fnStreamUptoRow, standIns := [], harness := (true, "02bb80bd8c4022a46f70505d4c00847abab7be3bf04b36c9bd37daa8112ab4ea"), looks := false }, kinds := [], alts := [], laidByText := true, laidKinds := [.data, .pinned], laidTests := true, laidLooks := .later }
def FnStreamUptoCardSaid : Prop := Claim7.holds Tryd.pinned (.plain (OpenSpec.upto fnStreamSpec)) fnStreamUptoCard

/-- THE SECOND FORM's CARD OF 'laws.FnExactScriptsOf'. -/
def fnExactScriptsOfUptoCard : Claim7 := { stood := { row := fnExactScriptsOfUptoRow, standIns := [], harness := (true, "02bb80bd8c4022a46f70505d4c00847abab7be3bf04b36c9bd37daa8112ab4ea"), looks := false }, kinds := [], alts := [], laidByText := true, laidKinds := [.data, .pinned], laidTests := true, laidLooks := .later }
def FnExactScriptsOfUptoCardSaid : Prop := Claim7.holds Tryd.pinned (.plain (OpenSpec.upto fnExactScriptsOfSpec)) fnExactScriptsOfUptoCard

/-- THE SECOND FORM's CARD OF 'laws.FnExactMessageFault'. -/
def fnExactMessageFaultUptoCard : Claim7 := { stood := { row := fnExactMessageFaultUptoRow, standIns := [], harness := (true, "02bb80bd8c4022a46f70505d4c00847abab7be3bf04b36c9bd37daa8112ab4ea"), looks := false }, kinds := [], alts := [], laidByText := true, laidKinds := [.data, .data, .data], laidTests := true, laidLooks := .later }
def FnExactMessageFaultUptoCardSaid : Prop := Claim7.holds Tryd.pinned (.plain (OpenSpec.upto fnExactMessageFaultSpec)) fnExactMessageFaultUptoCard
end Rows
end Go.Proofs.YtgahimbccbghnaaDoor
