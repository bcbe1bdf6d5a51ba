/-
  DERIVED. GIVEN WITH THE SEED: THE CARDS: each row of YtpdhoghkoakojaaGreatDoorRows.lean that lists a variable, with what it lists TIED to the program's text (the seventh form; the later family's looks); each row that meets fmt, with fmt's text TOLD by the authors' own Lean function (tested against real Go, not proved from fmt's source: count such statements apart). THE CARD IS WHAT COUNTS. Prove the row's statement (the work); the ties are given (YtpdhoghkoakojaaGreatDoorTie.lean); close each card by the builder's one call (the guide's Derived/Test/ToyasCard.lean, 'card_holds'). Laid BY PROGRAM, IN A SANDBOX (cutbox-door.mjs). By AI agents, Wed Nov 11 2026. No macro, syntax, notation, axiom, sorry.
-/
import Derived.Test.YtpdhoghkoakojaaGreatDoorRows
import GoSem.ClaimSeven
namespace Go.Proofs.YtpdhoghkoakojaaGreatDoor
namespace Rows

/-- THE TIED CARD OF 'weathercocklaw12.SignValues'. -/
def signValuesCard : Claim7 := { stood := { row := signValuesRow, standIns := [], harness := (true, "95644ab254a3df1ce50ee9d87dca2e3f607a87fdb96bc0774c7b175f4f1fd631"), looks := false }, kinds := [], alts := [], laidByText := true, laidKinds := [.data, .data, .data], laidTests := true, laidLooks := .later }
def SignValuesCardSaid : Prop := Claim7.holds Tryz.pinned (.plain (OpenSpec.ofChange signValuesSpec)) signValuesCard

/-- THE SECOND FORM's CARD OF 'weathercocklaw12.SignValues'. -/
def signValuesUptoCard : Claim7 := { stood := { row := signValuesUptoRow, standIns := [], harness := (true, "95644ab254a3df1ce50ee9d87dca2e3f607a87fdb96bc0774c7b175f4f1fd631"), looks := false }, kinds := [], alts := [], laidByText := true, laidKinds := [.data, .data, .data], laidTests := true, laidLooks := .later }
def SignValuesUptoCardSaid : Prop := Claim7.holds Tryz.pinned (.plain (OpenSpec.upto signValuesSpec)) signValuesUptoCard
end Rows
end Go.Proofs.YtpdhoghkoakojaaGreatDoor
