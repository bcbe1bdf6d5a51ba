/-
  DERIVED. GIVEN WITH THE SEED: THE CARDS: each row of YtoffpegppdmkdaaGreatDoorRows.lean that lists a variable, with what it lists TIED to the program's text (the seventh form; the later family's looks); each row that meets fmt, with fmt's text TOLD by the authors' own Lean function (tested against real Go, not proved from fmt's source: count such statements apart). THE CARD IS WHAT COUNTS. Prove the row's statement (the work); the ties are given (YtoffpegppdmkdaaGreatDoorTie.lean); close each card by the builder's one call (the guide's Derived/Test/ToyasCard.lean, 'card_holds'). Laid BY PROGRAM, IN A SANDBOX (cutbox-door.mjs). By AI agents, Wed Nov 11 2026. No macro, syntax, notation, axiom, sorry.
-/
import Derived.Test.YtoffpegppdmkdaaGreatDoorRows
import GoSem.ClaimSeven
namespace Go.Proofs.YtoffpegppdmkdaaGreatDoor
namespace Rows

/-- THE TIED CARD OF 'weathercocklaw14.CardParts'. -/
def cardPartsCard : Claim7 := { stood := { row := cardPartsRow, standIns := [], harness := (true, "0e410d0d848f661ec1cc8bab94f187be4b6bc2fc8f766dc8d1c41f475ca547da"), looks := false }, kinds := [], alts := [], laidByText := true, laidKinds := [.data, .data, .data], laidTests := true, laidLooks := .later }
def CardPartsCardSaid : Prop := Claim7.holds Tryz.pinned (.plain (OpenSpec.ofChange cardPartsSpec)) cardPartsCard

/-- THE TIED CARD OF 'weathercocklaw14.CardHeld'. -/
def cardHeldCard : Claim7 := { stood := { row := cardHeldRow, standIns := [], harness := (true, "0e410d0d848f661ec1cc8bab94f187be4b6bc2fc8f766dc8d1c41f475ca547da"), looks := false }, kinds := [], alts := [], laidByText := true, laidKinds := [.data, .data, .data], laidTests := true, laidLooks := .later }
def CardHeldCardSaid : Prop := Claim7.holds Tryz.pinned (.plain (OpenSpec.ofChange cardHeldSpec)) cardHeldCard

/-- THE TIED CARD OF 'weathercocklaw14.CardKnown'. -/
def cardKnownCard : Claim7 := { stood := { row := cardKnownRow, standIns := [], harness := (true, "0e410d0d848f661ec1cc8bab94f187be4b6bc2fc8f766dc8d1c41f475ca547da"), looks := false }, kinds := [], alts := [], laidByText := true, laidKinds := [.data, .data, .data], laidTests := true, laidLooks := .later }
def CardKnownCardSaid : Prop := Claim7.holds Tryz.pinned (.plain (OpenSpec.ofChange cardKnownSpec)) cardKnownCard

/-- THE TIED CARD OF 'weathercocklaw14.CardParted'. -/
def cardPartedCard : Claim7 := { stood := { row := cardPartedRow, standIns := [], harness := (true, "0e410d0d848f661ec1cc8bab94f187be4b6bc2fc8f766dc8d1c41f475ca547da"), looks := false }, kinds := [], alts := [], laidByText := true, laidKinds := [.data, .data, .data], laidTests := true, laidLooks := .later }
def CardPartedCardSaid : Prop := Claim7.holds Tryz.pinned (.plain (OpenSpec.ofChange cardPartedSpec)) cardPartedCard

/-- THE TIED CARD OF 'weathercocklaw14.CardMore'. -/
def cardMoreCard : Claim7 := { stood := { row := cardMoreRow, standIns := [], harness := (true, "0e410d0d848f661ec1cc8bab94f187be4b6bc2fc8f766dc8d1c41f475ca547da"), looks := false }, kinds := [], alts := [], laidByText := true, laidKinds := [.data, .data, .data], laidTests := true, laidLooks := .later }
def CardMoreCardSaid : Prop := Claim7.holds Tryz.pinned (.plain (OpenSpec.ofChange cardMoreSpec)) cardMoreCard

/-- THE TIED CARD OF 'weathercocklaw14.CardGuesses'. -/
def cardGuessesCard : Claim7 := { stood := { row := cardGuessesRow, standIns := [], harness := (true, "0e410d0d848f661ec1cc8bab94f187be4b6bc2fc8f766dc8d1c41f475ca547da"), looks := false }, kinds := [], alts := [], laidByText := true, laidKinds := [.data, .data, .data], laidTests := true, laidLooks := .later }
def CardGuessesCardSaid : Prop := Claim7.holds Tryz.pinned (.plain (OpenSpec.ofChange cardGuessesSpec)) cardGuessesCard

/-- THE TIED CARD OF 'weathercocklaw14.CardRows'. -/
def cardRowsCard : Claim7 := { stood := { row := cardRowsRow, standIns := [], harness := (true, "0e410d0d848f661ec1cc8bab94f187be4b6bc2fc8f766dc8d1c41f475ca547da"), looks := false }, kinds := [], alts := [], laidByText := true, laidKinds := [.data, .data, .data], laidTests := true, laidLooks := .later }
def CardRowsCardSaid : Prop := Claim7.holds Tryz.pinned (.plain (OpenSpec.ofChange cardRowsSpec)) cardRowsCard

/-- THE SECOND FORM's CARD OF 'weathercocklaw14.CardParts'. -/
def cardPartsUptoCard : Claim7 := { stood := { row := cardPartsUptoRow, standIns := [], harness := (true, "0e410d0d848f661ec1cc8bab94f187be4b6bc2fc8f766dc8d1c41f475ca547da"), looks := false }, kinds := [], alts := [], laidByText := true, laidKinds := [.data, .data, .data], laidTests := true, laidLooks := .later }
def CardPartsUptoCardSaid : Prop := Claim7.holds Tryz.pinned (.plain (OpenSpec.upto cardPartsSpec)) cardPartsUptoCard

/-- THE SECOND FORM's CARD OF 'weathercocklaw14.CardHeld'. -/
def cardHeldUptoCard : Claim7 := { stood := { row := cardHeldUptoRow, standIns := [], harness := (true, "0e410d0d848f661ec1cc8bab94f187be4b6bc2fc8f766dc8d1c41f475ca547da"), looks := false }, kinds := [], alts := [], laidByText := true, laidKinds := [.data, .data, .data], laidTests := true, laidLooks := .later }
def CardHeldUptoCardSaid : Prop := Claim7.holds Tryz.pinned (.plain (OpenSpec.upto cardHeldSpec)) cardHeldUptoCard

/-- THE SECOND FORM's CARD OF 'weathercocklaw14.CardKnown'. -/
def cardKnownUptoCard : Claim7 := { stood := { row := cardKnownUptoRow, standIns := [], harness := (true, "0e410d0d848f661ec1cc8bab94f187be4b6bc2fc8f766dc8d1c41f475ca547da"), looks := false }, kinds := [], alts := [], laidByText := true, laidKinds := [.data, .data, .data], laidTests := true, laidLooks := .later }
def CardKnownUptoCardSaid : Prop := Claim7.holds Tryz.pinned (.plain (OpenSpec.upto cardKnownSpec)) cardKnownUptoCard

/-- THE SECOND FORM's CARD OF 'weathercocklaw14.CardParted'. -/
def cardPartedUptoCard : Claim7 := { stood := { row := cardPartedUptoRow, standIns := [], harness := (true, "0e410d0d848f661ec1cc8bab94f187be4b6bc2fc8f766dc8d1c41f475ca547da"), looks := false }, kinds := [], alts := [], laidByText := true, laidKinds := [.data, .data, .data], laidTests := true, laidLooks := .later }
def CardPartedUptoCardSaid : Prop := Claim7.holds Tryz.pinned (.plain (OpenSpec.upto cardPartedSpec)) cardPartedUptoCard

/-- THE SECOND FORM's CARD OF 'weathercocklaw14.CardMore'. -/
def cardMoreUptoCard : Claim7 := { stood := { row := cardMoreUptoRow, standIns := [], harness := (true, "0e410d0d848f661ec1cc8bab94f187be4b6bc2fc8f766dc8d1c41f475ca547da"), looks := false }, kinds := [], alts := [], laidByText := true, laidKinds := [.data, .data, .data], laidTests := true, laidLooks := .later }
def CardMoreUptoCardSaid : Prop := Claim7.holds Tryz.pinned (.plain (OpenSpec.upto cardMoreSpec)) cardMoreUptoCard

/-- THE SECOND FORM's CARD OF 'weathercocklaw14.CardGuesses'. -/
def cardGuessesUptoCard : Claim7 := { stood := { row := cardGuessesUptoRow, standIns := [], harness := (true, "0e410d0d848f661ec1cc8bab94f187be4b6bc2fc8f766dc8d1c41f475ca547da"), looks := false }, kinds := [], alts := [], laidByText := true, laidKinds := [.data, .data, .data], laidTests := true, laidLooks := .later }
def CardGuessesUptoCardSaid : Prop := Claim7.holds Tryz.pinned (.plain (OpenSpec.upto cardGuessesSpec)) cardGuessesUptoCard

/-- THE SECOND FORM's CARD OF 'weathercocklaw14.CardRows'. -/
def cardRowsUptoCard : Claim7 := { stood := { row := cardRowsUptoRow, standIns := [], harness := (true, "0e410d0d848f661ec1cc8bab94f187be4b6bc2fc8f766dc8d1c41f475ca547da"), looks := false }, kinds := [], alts := [], laidByText := true, laidKinds := [.data, .data, .data], laidTests := true, laidLooks := .later }
def CardRowsUptoCardSaid : Prop := Claim7.holds Tryz.pinned (.plain (OpenSpec.upto cardRowsSpec)) cardRowsUptoCard
end Rows
end Go.Proofs.YtoffpegppdmkdaaGreatDoor
