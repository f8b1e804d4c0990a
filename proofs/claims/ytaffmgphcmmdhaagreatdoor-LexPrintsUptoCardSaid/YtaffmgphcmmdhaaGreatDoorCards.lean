/-
  DERIVED. GIVEN WITH THE SEED: THE CARDS: each row of YtaffmgphcmmdhaaGreatDoorRows.lean that lists a variable, with what it lists TIED to the program's text (the seventh form; the later family's looks); each row that meets fmt, with fmt's text TOLD by the authors' own Lean function (tested against real Go, not proved from fmt's source: count such statements apart). THE CARD IS WHAT COUNTS. Prove the row's statement (the work); the ties are given (YtaffmgphcmmdhaaGreatDoorTie.lean); close each card by the builder's one call (the guide's Derived/Test/ToyasCard.lean, 'card_holds'). Laid BY PROGRAM, IN A SANDBOX (cutbox-door.mjs). By AI agents, Wed Nov 11 2026. No macro, syntax, notation, axiom, sorry.
-/
import Derived.Test.YtaffmgphcmmdhaaGreatDoorRows
import GoSem.ClaimSeven
namespace Go.Proofs.YtaffmgphcmmdhaaGreatDoor
namespace Rows

/-- THE TIED CARD OF 'barbicanlaw18.LexTexts'. -/
def lexTextsCard : Claim7 := { stood := { row := lexTextsRow, standIns := [], harness := (true, "c5f5250fe6943eec81e2b3095db80fd7e06a8713fabe48c01d305d6d148c3b65"), looks := true }, kinds := [], alts := [], laidByText := true, laidKinds := [.data, .data, .data, .data, .handle, .sentinel, .sentinel, .pinned, .pinned], laidTests := true, laidLooks := .later }
def LexTextsCardSaid : Prop := Claim7.holds Tryz.pinned (.plain (OpenSpec.ofChange lexTextsSpec)) lexTextsCard

/-- THE TIED CARD OF 'barbicanlaw18.LexCases'. -/
def lexCasesCard : Claim7 := { stood := { row := lexCasesRow, standIns := [], harness := (true, "c5f5250fe6943eec81e2b3095db80fd7e06a8713fabe48c01d305d6d148c3b65"), looks := true }, kinds := [], alts := [], laidByText := true, laidKinds := [.data, .data, .data, .data, .handle, .sentinel, .sentinel, .pinned, .pinned], laidTests := true, laidLooks := .later }
def LexCasesCardSaid : Prop := Claim7.holds Tryz.pinned (.plain (OpenSpec.ofChange lexCasesSpec)) lexCasesCard

/-- THE TIED CARD OF 'barbicanlaw18.LexPrints'. -/
def lexPrintsCard : Claim7 := { stood := { row := lexPrintsRow, standIns := [], harness := (true, "c5f5250fe6943eec81e2b3095db80fd7e06a8713fabe48c01d305d6d148c3b65"), looks := true }, kinds := [], alts := [], laidByText := true, laidKinds := [.data, .data, .data, .data, .handle, .sentinel, .sentinel, .pinned, .pinned], laidTests := true, laidLooks := .later }
def LexPrintsCardSaid : Prop := Claim7.holds Tryz.pinned (.plain (OpenSpec.ofChange lexPrintsSpec)) lexPrintsCard

/-- THE SECOND FORM's CARD OF 'barbicanlaw18.LexTexts'. -/
def lexTextsUptoCard : Claim7 := { stood := { row := lexTextsUptoRow, standIns := [], harness := (true, "c5f5250fe6943eec81e2b3095db80fd7e06a8713fabe48c01d305d6d148c3b65"), looks := true }, kinds := [], alts := [], laidByText := true, laidKinds := [.data, .data, .data, .data, .handle, .sentinel, .sentinel, .pinned, .pinned], laidTests := true, laidLooks := .later }
def LexTextsUptoCardSaid : Prop := Claim7.holds Tryz.pinned (.plain (OpenSpec.upto lexTextsSpec)) lexTextsUptoCard

/-- THE SECOND FORM's CARD OF 'barbicanlaw18.LexCases'. -/
def lexCasesUptoCard : Claim7 := { stood := { row := lexCasesUptoRow, standIns := [], harness := (true, "c5f5250fe6943eec81e2b3095db80fd7e06a8713fabe48c01d305d6d148c3b65"), looks := true }, kinds := [], alts := [], laidByText := true, laidKinds := [.data, .data, .data, .data, .handle, .sentinel, .sentinel, .pinned, .pinned], laidTests := true, laidLooks := .later }
def LexCasesUptoCardSaid : Prop := Claim7.holds Tryz.pinned (.plain (OpenSpec.upto lexCasesSpec)) lexCasesUptoCard

/-- THE SECOND FORM's CARD OF 'barbicanlaw18.LexPrints'. -/
def lexPrintsUptoCard : Claim7 := { stood := { row := lexPrintsUptoRow, standIns := [], harness := (true, "c5f5250fe6943eec81e2b3095db80fd7e06a8713fabe48c01d305d6d148c3b65"), looks := true }, kinds := [], alts := [], laidByText := true, laidKinds := [.data, .data, .data, .data, .handle, .sentinel, .sentinel, .pinned, .pinned], laidTests := true, laidLooks := .later }
def LexPrintsUptoCardSaid : Prop := Claim7.holds Tryz.pinned (.plain (OpenSpec.upto lexPrintsSpec)) lexPrintsUptoCard
end Rows
end Go.Proofs.YtaffmgphcmmdhaaGreatDoor
