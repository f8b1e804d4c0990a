/-
  DERIVED. GIVEN WITH THE SEED: THE CARDS: each row of YtljadejgdbemoaaDoorRows.lean that lists a variable, with what it lists TIED to the program's text (the seventh form; the later family's looks); each row that meets fmt, with fmt's text TOLD by the authors' own Lean function (tested against real Go, not proved from fmt's source: count such statements apart). THE CARD IS WHAT COUNTS. Prove the row's statement (the work); the ties are given (YtljadejgdbemoaaDoorTie.lean); close each card by the builder's one call (the guide's Derived/Test/ToyasCard.lean, 'card_holds'). Laid BY PROGRAM, IN A SANDBOX (cutbox-door.mjs). By AI agents, Wed Nov 11 2026. No macro, syntax, notation, axiom, sorry.
-/
import Derived.Test.YtljadejgdbemoaaDoorRows
import GoSem.ClaimSeven
namespace Go.Proofs.YtljadejgdbemoaaDoor
namespace Rows

/-- THE TIED CARD OF 'barbicanlaw14.RowApart'. -/
def rowApartCard : Claim7 := { stood := { row := rowApartRow, standIns := [], harness := (true, "77cbc5986fc1cd3011a0ccca7504cb3e741e7af156bc06144a3fd5aa7d34e031"), looks := true }, kinds := [], alts := [], laidByText := true, laidKinds := [.handle], laidTests := true, laidLooks := .later }
def RowApartCardSaid : Prop := Claim7.holds Tryd.pinned (.plain (OpenSpec.ofChange rowApartSpec)) rowApartCard

/-- THE TIED CARD OF 'barbicanlaw14.RowBytes'. -/
def rowBytesCard : Claim7 := { stood := { row := rowBytesRow, standIns := [], harness := (true, "77cbc5986fc1cd3011a0ccca7504cb3e741e7af156bc06144a3fd5aa7d34e031"), looks := true }, kinds := [], alts := [], laidByText := true, laidKinds := [.handle], laidTests := true, laidLooks := .later }
def RowBytesCardSaid : Prop := Claim7.holds Tryd.pinned (.plain (OpenSpec.ofChange rowBytesSpec)) rowBytesCard

/-- THE TIED CARD OF 'barbicanlaw14.RowBack'. -/
def rowBackCard : Claim7 := { stood := { row := rowBackRow, standIns := [], harness := (true, "77cbc5986fc1cd3011a0ccca7504cb3e741e7af156bc06144a3fd5aa7d34e031"), looks := true }, kinds := [], alts := [], laidByText := true, laidKinds := [.handle], laidTests := true, laidLooks := .later }
def RowBackCardSaid : Prop := Claim7.holds Tryd.pinned (.plain (OpenSpec.ofChange rowBackSpec)) rowBackCard

/-- THE TIED CARD OF 'barbicanlaw05.ValueOrder'. -/
def valueOrderCard : Claim7 := { stood := { row := valueOrderRow, standIns := [], harness := (true, "77cbc5986fc1cd3011a0ccca7504cb3e741e7af156bc06144a3fd5aa7d34e031"), looks := true }, kinds := [], alts := [], laidByText := true, laidKinds := [.data, .data, .data, .data, .pinned, .pinned], laidTests := true, laidLooks := .later }
def ValueOrderCardSaid : Prop := Claim7.holds Tryd.pinned (.plain (OpenSpec.ofChange valueOrderSpec)) valueOrderCard

/-- THE TIED CARD OF 'barbicanlaw05.ValueNulls'. -/
def valueNullsCard : Claim7 := { stood := { row := valueNullsRow, standIns := [], harness := (true, "77cbc5986fc1cd3011a0ccca7504cb3e741e7af156bc06144a3fd5aa7d34e031"), looks := true }, kinds := [], alts := [], laidByText := true, laidKinds := [.data, .data, .data, .data, .pinned, .pinned], laidTests := true, laidLooks := .later }
def ValueNullsCardSaid : Prop := Claim7.holds Tryd.pinned (.plain (OpenSpec.ofChange valueNullsSpec)) valueNullsCard

/-- THE TIED CARD OF 'barbicanlaw05.ValueDivides'. -/
def valueDividesCard : Claim7 := { stood := { row := valueDividesRow, standIns := [], harness := (true, "77cbc5986fc1cd3011a0ccca7504cb3e741e7af156bc06144a3fd5aa7d34e031"), looks := true }, kinds := [], alts := [], laidByText := true, laidKinds := [.data, .data, .data, .data, .handle, .pinned, .pinned], laidTests := true, laidLooks := .later }
def ValueDividesCardSaid : Prop := Claim7.holds Tryd.pinned (.plain (OpenSpec.ofChange valueDividesSpec)) valueDividesCard

/-- THE TIED CARD OF 'barbicanlaw05.ValueMorgan'. -/
def valueMorganCard : Claim7 := { stood := { row := valueMorganRow, standIns := [], harness := (true, "77cbc5986fc1cd3011a0ccca7504cb3e741e7af156bc06144a3fd5aa7d34e031"), looks := true }, kinds := [], alts := [], laidByText := true, laidKinds := [.data, .data, .data, .data, .sentinel, .sentinel, .pinned, .pinned], laidTests := true, laidLooks := .later }
def ValueMorganCardSaid : Prop := Claim7.holds Tryd.pinned (.plain (OpenSpec.ofChange valueMorganSpec)) valueMorganCard

/-- THE SECOND FORM's CARD OF 'barbicanlaw14.RowApart'. -/
def rowApartUptoCard : Claim7 := { stood := { row := rowApartUptoRow, standIns := [], harness := (true, "77cbc5986fc1cd3011a0ccca7504cb3e741e7af156bc06144a3fd5aa7d34e031"), looks := true }, kinds := [], alts := [], laidByText := true, laidKinds := [.handle], laidTests := true, laidLooks := .later }
def RowApartUptoCardSaid : Prop := Claim7.holds Tryd.pinned (.plain (OpenSpec.upto rowApartSpec)) rowApartUptoCard

/-- THE SECOND FORM's CARD OF 'barbicanlaw14.RowBytes'. -/
def rowBytesUptoCard : Claim7 := { stood := { row := rowBytesUptoRow, standIns := [], harness := (true, "77cbc5986fc1cd3011a0ccca7504cb3e741e7af156bc06144a3fd5aa7d34e031"), looks := true }, kinds := [], alts := [], laidByText := true, laidKinds := [.handle], laidTests := true, laidLooks := .later }
def RowBytesUptoCardSaid : Prop := Claim7.holds Tryd.pinned (.plain (OpenSpec.upto rowBytesSpec)) rowBytesUptoCard

/-- THE SECOND FORM's CARD OF 'barbicanlaw14.RowBack'. -/
def rowBackUptoCard : Claim7 := { stood := { row := rowBackUptoRow, standIns := [], harness := (true, "77cbc5986fc1cd3011a0ccca7504cb3e741e7af156bc06144a3fd5aa7d34e031"), looks := true }, kinds := [], alts := [], laidByText := true, laidKinds := [.handle], laidTests := true, laidLooks := .later }
def RowBackUptoCardSaid : Prop := Claim7.holds Tryd.pinned (.plain (OpenSpec.upto rowBackSpec)) rowBackUptoCard

/-- THE SECOND FORM's CARD OF 'barbicanlaw05.ValueOrder'. -/
def valueOrderUptoCard : Claim7 := { stood := { row := valueOrderUptoRow, standIns := [], harness := (true, "77cbc5986fc1cd3011a0ccca7504cb3e741e7af156bc06144a3fd5aa7d34e031"), looks := true }, kinds := [], alts := [], laidByText := true, laidKinds := [.data, .data, .data, .data, .pinned, .pinned], laidTests := true, laidLooks := .later }
def ValueOrderUptoCardSaid : Prop := Claim7.holds Tryd.pinned (.plain (OpenSpec.upto valueOrderSpec)) valueOrderUptoCard

/-- THE SECOND FORM's CARD OF 'barbicanlaw05.ValueNulls'. -/
def valueNullsUptoCard : Claim7 := { stood := { row := valueNullsUptoRow, standIns := [], harness := (true, "77cbc5986fc1cd3011a0ccca7504cb3e741e7af156bc06144a3fd5aa7d34e031"), looks := true }, kinds := [], alts := [], laidByText := true, laidKinds := [.data, .data, .data, .data, .pinned, .pinned], laidTests := true, laidLooks := .later }
def ValueNullsUptoCardSaid : Prop := Claim7.holds Tryd.pinned (.plain (OpenSpec.upto valueNullsSpec)) valueNullsUptoCard

/-- THE SECOND FORM's CARD OF 'barbicanlaw05.ValueDivides'. -/
def valueDividesUptoCard : Claim7 := { stood := { row := valueDividesUptoRow, standIns := [], harness := (true, "77cbc5986fc1cd3011a0ccca7504cb3e741e7af156bc06144a3fd5aa7d34e031"), looks := true }, kinds := [], alts := [], laidByText := true, laidKinds := [.data, .data, .data, .data, .handle, .pinned, .pinned], laidTests := true, laidLooks := .later }
def ValueDividesUptoCardSaid : Prop := Claim7.holds Tryd.pinned (.plain (OpenSpec.upto valueDividesSpec)) valueDividesUptoCard

/-- THE SECOND FORM's CARD OF 'barbicanlaw05.ValueMorgan'. -/
def valueMorganUptoCard : Claim7 := { stood := { row := valueMorganUptoRow, standIns := [], harness := (true, "77cbc5986fc1cd3011a0ccca7504cb3e741e7af156bc06144a3fd5aa7d34e031"), looks := true }, kinds := [], alts := [], laidByText := true, laidKinds := [.data, .data, .data, .data, .sentinel, .sentinel, .pinned, .pinned], laidTests := true, laidLooks := .later }
def ValueMorganUptoCardSaid : Prop := Claim7.holds Tryd.pinned (.plain (OpenSpec.upto valueMorganSpec)) valueMorganUptoCard
end Rows
end Go.Proofs.YtljadejgdbemoaaDoor
