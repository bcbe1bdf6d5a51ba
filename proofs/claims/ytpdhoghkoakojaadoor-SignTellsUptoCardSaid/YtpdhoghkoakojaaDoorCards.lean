/-
  DERIVED. GIVEN WITH THE SEED: THE CARDS: each row of YtpdhoghkoakojaaDoorRows.lean that lists a variable, with what it lists TIED to the program's text (the seventh form; the later family's looks); each row that meets fmt, with fmt's text TOLD by the authors' own Lean function (tested against real Go, not proved from fmt's source: count such statements apart). THE CARD IS WHAT COUNTS. Prove the row's statement (the work); the ties are given (YtpdhoghkoakojaaDoorTie.lean); close each card by the builder's one call (the guide's Derived/Test/ToyasCard.lean, 'card_holds'). Laid BY PROGRAM, IN A SANDBOX (cutbox-door.mjs). By AI agents, Wed Nov 11 2026. No macro, syntax, notation, axiom, sorry.
-/
import Derived.Test.YtpdhoghkoakojaaDoorRows
import GoSem.ClaimSeven
namespace Go.Proofs.YtpdhoghkoakojaaDoor
namespace Rows

/-- THE TIED CARD OF 'weathercocklaw12.SignNormals'. -/
def signNormalsCard : Claim7 := { stood := { row := signNormalsRow, standIns := [], harness := (true, "a8ce34b76af75b70d0dd26c4dc47137f500333329f25b1bffb1a6c217dba2d9b"), looks := false }, kinds := [], alts := [], laidByText := true, laidKinds := [.data, .data, .data], laidTests := true, laidLooks := .later }
def SignNormalsCardSaid : Prop := Claim7.holds Tryd.pinned (.plain (OpenSpec.ofChange signNormalsSpec)) signNormalsCard

/-- THE TIED CARD OF 'weathercocklaw12.SignTells'. -/
def signTellsCard : Claim7 := { stood := { row := signTellsRow, standIns := [], harness := (true, "a8ce34b76af75b70d0dd26c4dc47137f500333329f25b1bffb1a6c217dba2d9b"), looks := false }, kinds := [], alts := [], laidByText := true, laidKinds := [.data, .data, .data], laidTests := true, laidLooks := .later }
def SignTellsCardSaid : Prop := Claim7.holds Tryd.pinned (.plain (OpenSpec.ofChange signTellsSpec)) signTellsCard

/-- THE TIED CARD OF 'weathercocklaw12.SignAgain'. -/
def signAgainCard : Claim7 := { stood := { row := signAgainRow, standIns := [], harness := (true, "a8ce34b76af75b70d0dd26c4dc47137f500333329f25b1bffb1a6c217dba2d9b"), looks := false }, kinds := [], alts := [], laidByText := true, laidKinds := [.data, .data, .data], laidTests := true, laidLooks := .later }
def SignAgainCardSaid : Prop := Claim7.holds Tryd.pinned (.plain (OpenSpec.ofChange signAgainSpec)) signAgainCard

/-- THE TIED CARD OF 'weathercocklaw12.SignWays'. -/
def signWaysCard : Claim7 := { stood := { row := signWaysRow, standIns := [], harness := (true, "a8ce34b76af75b70d0dd26c4dc47137f500333329f25b1bffb1a6c217dba2d9b"), looks := false }, kinds := [], alts := [], laidByText := true, laidKinds := [.data, .data, .data], laidTests := true, laidLooks := .later }
def SignWaysCardSaid : Prop := Claim7.holds Tryd.pinned (.plain (OpenSpec.ofChange signWaysSpec)) signWaysCard

/-- THE TIED CARD OF 'weathercocklaw12.SignRanks'. -/
def signRanksCard : Claim7 := { stood := { row := signRanksRow, standIns := [], harness := (true, "a8ce34b76af75b70d0dd26c4dc47137f500333329f25b1bffb1a6c217dba2d9b"), looks := false }, kinds := [], alts := [], laidByText := true, laidKinds := [.data, .data, .data], laidTests := true, laidLooks := .later }
def SignRanksCardSaid : Prop := Claim7.holds Tryd.pinned (.plain (OpenSpec.ofChange signRanksSpec)) signRanksCard

/-- THE SECOND FORM's CARD OF 'weathercocklaw12.SignNormals'. -/
def signNormalsUptoCard : Claim7 := { stood := { row := signNormalsUptoRow, standIns := [], harness := (true, "a8ce34b76af75b70d0dd26c4dc47137f500333329f25b1bffb1a6c217dba2d9b"), looks := false }, kinds := [], alts := [], laidByText := true, laidKinds := [.data, .data, .data], laidTests := true, laidLooks := .later }
def SignNormalsUptoCardSaid : Prop := Claim7.holds Tryd.pinned (.plain (OpenSpec.upto signNormalsSpec)) signNormalsUptoCard

/-- THE SECOND FORM's CARD OF 'weathercocklaw12.SignTells'. -/
def signTellsUptoCard : Claim7 := { stood := { row := signTellsUptoRow, standIns := [], harness := (true, "a8ce34b76af75b70d0dd26c4dc47137f500333329f25b1bffb1a6c217dba2d9b"), looks := false }, kinds := [], alts := [], laidByText := true, laidKinds := [.data, .data, .data], laidTests := true, laidLooks := .later }
def SignTellsUptoCardSaid : Prop := Claim7.holds Tryd.pinned (.plain (OpenSpec.upto signTellsSpec)) signTellsUptoCard

/-- THE SECOND FORM's CARD OF 'weathercocklaw12.SignAgain'. -/
def signAgainUptoCard : Claim7 := { stood := { row := signAgainUptoRow, standIns := [], harness := (true, "a8ce34b76af75b70d0dd26c4dc47137f500333329f25b1bffb1a6c217dba2d9b"), looks := false }, kinds := [], alts := [], laidByText := true, laidKinds := [.data, .data, .data], laidTests := true, laidLooks := .later }
def SignAgainUptoCardSaid : Prop := Claim7.holds Tryd.pinned (.plain (OpenSpec.upto signAgainSpec)) signAgainUptoCard

/-- THE SECOND FORM's CARD OF 'weathercocklaw12.SignWays'. -/
def signWaysUptoCard : Claim7 := { stood := { row := signWaysUptoRow, standIns := [], harness := (true, "a8ce34b76af75b70d0dd26c4dc47137f500333329f25b1bffb1a6c217dba2d9b"), looks := false }, kinds := [], alts := [], laidByText := true, laidKinds := [.data, .data, .data], laidTests := true, laidLooks := .later }
def SignWaysUptoCardSaid : Prop := Claim7.holds Tryd.pinned (.plain (OpenSpec.upto signWaysSpec)) signWaysUptoCard

/-- THE SECOND FORM's CARD OF 'weathercocklaw12.SignRanks'. -/
def signRanksUptoCard : Claim7 := { stood := { row := signRanksUptoRow, standIns := [], harness := (true, "a8ce34b76af75b70d0dd26c4dc47137f500333329f25b1bffb1a6c217dba2d9b"), looks := false }, kinds := [], alts := [], laidByText := true, laidKinds := [.data, .data, .data], laidTests := true, laidLooks := .later }
def SignRanksUptoCardSaid : Prop := Claim7.holds Tryd.pinned (.plain (OpenSpec.upto signRanksSpec)) signRanksUptoCard
end Rows
end Go.Proofs.YtpdhoghkoakojaaDoor
