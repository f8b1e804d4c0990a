/-
  DERIVED. GIVEN WITH THE SEED: THE CARDS: each row of YtddkbhglbkfelaaDoorRows.lean that lists a variable, with what it lists TIED to the program's text (the seventh form; the later family's looks); each row that meets fmt, with fmt's text TOLD by the authors' own Lean function (tested against real Go, not proved from fmt's source: count such statements apart). THE CARD IS WHAT COUNTS. Prove the row's statement (the work); the ties are given (YtddkbhglbkfelaaDoorTie.lean); close each card by the builder's one call (the guide's Derived/Test/ToyasCard.lean, 'card_holds'). Laid BY PROGRAM, IN A SANDBOX (cutbox-door.mjs). By AI agents, Wed Nov 11 2026. No macro, syntax, notation, axiom, sorry.
-/
import Derived.Test.YtddkbhglbkfelaaDoorRows
import GoSem.ClaimSeven
namespace Go.Proofs.YtddkbhglbkfelaaDoor
namespace Rows

/-- THE TIED CARD OF 'barbicanlaw26.StoreEntries'. -/
def storeEntriesCard : Claim7 := { stood := { row := storeEntriesRow, standIns := [], harness := (true, "5978820ccd7c48df9fb2b7e704260283602e8e6b66ac5fa264b2b0a0a9ebfe86"), looks := true }, kinds := [], alts := [], laidByText := true, laidKinds := [.handle], laidTests := true, laidLooks := .later }
def StoreEntriesCardSaid : Prop := Claim7.holds Tryd.pinned (.plain (OpenSpec.ofChange storeEntriesSpec)) storeEntriesCard

/-- THE SECOND FORM's CARD OF 'barbicanlaw26.StoreEntries'. -/
def storeEntriesUptoCard : Claim7 := { stood := { row := storeEntriesUptoRow, standIns := [], harness := (true, "5978820ccd7c48df9fb2b7e704260283602e8e6b66ac5fa264b2b0a0a9ebfe86"), looks := true }, kinds := [], alts := [], laidByText := true, laidKinds := [.handle], laidTests := true, laidLooks := .later }
def StoreEntriesUptoCardSaid : Prop := Claim7.holds Tryd.pinned (.plain (OpenSpec.upto storeEntriesSpec)) storeEntriesUptoCard
end Rows
end Go.Proofs.YtddkbhglbkfelaaDoor
