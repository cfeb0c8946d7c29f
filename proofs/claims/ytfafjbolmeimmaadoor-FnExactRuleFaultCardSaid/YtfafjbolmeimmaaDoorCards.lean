/-
  DERIVED. GIVEN WITH THE SEED: THE CARDS: each row of YtfafjbolmeimmaaDoorRows.lean that lists a variable, with what it lists TIED to the program's text (the seventh form; the later family's looks); each row that meets fmt, with fmt's text TOLD by the authors' own Lean function (tested against real Go, not proved from fmt's source: count such statements apart). THE CARD IS WHAT COUNTS. Prove the row's statement (the work); the ties are given (YtfafjbolmeimmaaDoorTie.lean); close each card by the builder's one call (the guide's Derived/Test/ToyasCard.lean, 'card_holds'). Laid BY PROGRAM, IN A SANDBOX (cutbox-door.mjs). By AI agents, Wed Nov 11 2026. No macro, syntax, notation, axiom, sorry.
-/
import Derived.Test.YtfafjbolmeimmaaDoorRows
import GoSem.ClaimSeven
namespace Go.Proofs.YtfafjbolmeimmaaDoor
namespace Rows

/-- THE TIED CARD OF 'laws.FnStream'. -/
def fnStreamCard : Claim7 := { stood := { row := fnStreamRow, standIns := [], harness := (true, "304ff2fbc245c1693060388c47eb448c55d49df5505f85413521363297842cce"), looks := true }, kinds := [], alts := [], laidByText := true, laidKinds := [.data, .pinned], laidTests := true, laidLooks := .later }
def FnStreamCardSaid : Prop := Claim7.holds Tryd.pinned (.plain (OpenSpec.ofChange fnStreamSpec)) fnStreamCard

/-- THE TIED CARD OF 'laws.FnExactRuleFault'. -/
def fnExactRuleFaultCard : Claim7 := { stood := { row := fnExactRuleFaultRow, standIns := [], harness := (true, "304ff2fbc245c1693060388c47eb448c55d49df5505f85413521363297842cce"), looks := true }, kinds := [], alts := [], laidByText := true, laidKinds := [.data, .data, .data, .data, .sentinel, .sentinel, .pinned], laidTests := true, laidLooks := .later }
def FnExactRuleFaultCardSaid : Prop := Claim7.holds Tryd.pinned (.plain (OpenSpec.ofChange fnExactRuleFaultSpec)) fnExactRuleFaultCard

/-- THE SECOND FORM's CARD OF 'laws.FnStream'. -/
def fnStreamUptoCard : Claim7 := { stood := { row := fnStreamUptoRow, standIns := [], harness := (true, "304ff2fbc245c1693060388c47eb448c55d49df5505f85413521363297842cce"), looks := true }, kinds := [], alts := [], laidByText := true, laidKinds := [.data, .pinned], laidTests := true, laidLooks := .later }
def FnStreamUptoCardSaid : Prop := Claim7.holds Tryd.pinned (.plain (OpenSpec.upto fnStreamSpec)) fnStreamUptoCard

/-- THE SECOND FORM's CARD OF 'laws.FnExactRuleFault'. -/
def fnExactRuleFaultUptoCard : Claim7 := { stood := { row := fnExactRuleFaultUptoRow, standIns := [], harness := (true, "304ff2fbc245c1693060388c47eb448c55d49df5505f85413521363297842cce"), looks := true }, kinds := [], alts := [], laidByText := true, laidKinds := [.data, .data, .data, .data, .sentinel, .sentinel, .pinned], laidTests := true, laidLooks := .later }
def FnExactRuleFaultUptoCardSaid : Prop := Claim7.holds Tryd.pinned (.plain (OpenSpec.upto fnExactRuleFaultSpec)) fnExactRuleFaultUptoCard
end Rows
end Go.Proofs.YtfafjbolmeimmaaDoor
