/-
  DERIVED. GIVEN WITH THE SEED: THE CARDS: each row of YtkboodfnegedaaaDoorRows.lean that lists a variable, with what it lists TIED to the program's text (the seventh form; the later family's looks); each row that meets fmt, with fmt's text TOLD by the authors' own Lean function (tested against real Go, not proved from fmt's source: count such statements apart). THE CARD IS WHAT COUNTS. Prove the row's statement (the work); the ties are given (YtkboodfnegedaaaDoorTie.lean); close each card by the builder's one call (the guide's Derived/Test/ToyasCard.lean, 'card_holds'). Laid BY PROGRAM, IN A SANDBOX (cutbox-door.mjs). By AI agents, Wed Nov 11 2026. No macro, syntax, notation, axiom, sorry.
-/
import Derived.Test.YtkboodfnegedaaaDoorRows
import GoSem.ClaimSeven
namespace Go.Proofs.YtkboodfnegedaaaDoor
namespace Rows

/-- THE TIED CARD OF 'weathercocklaw08.ExprKinds'. -/
def exprKindsCard : Claim7 := { stood := { row := exprKindsRow, standIns := [], harness := (true, "edab7dc787b41a9a18e9760226a39786daf9891fdaa37f815131f09a2725da65"), looks := false }, kinds := [], alts := [], laidByText := true, laidKinds := [.data, .data, .data], laidTests := true, laidLooks := .later }
def ExprKindsCardSaid : Prop := Claim7.holds Tryd.pinned (.plain (OpenSpec.ofChange exprKindsSpec)) exprKindsCard

/-- THE TIED CARD OF 'weathercocklaw08.ExprValues'. -/
def exprValuesCard : Claim7 := { stood := { row := exprValuesRow, standIns := [], harness := (true, "edab7dc787b41a9a18e9760226a39786daf9891fdaa37f815131f09a2725da65"), looks := false }, kinds := [], alts := [], laidByText := true, laidKinds := [.data, .data, .data], laidTests := true, laidLooks := .later }
def ExprValuesCardSaid : Prop := Claim7.holds Tryd.pinned (.plain (OpenSpec.ofChange exprValuesSpec)) exprValuesCard

/-- THE TIED CARD OF 'weathercocklaw08.ExprTables'. -/
def exprTablesCard : Claim7 := { stood := { row := exprTablesRow, standIns := [], harness := (true, "edab7dc787b41a9a18e9760226a39786daf9891fdaa37f815131f09a2725da65"), looks := false }, kinds := [], alts := [], laidByText := true, laidKinds := [.data, .data, .data], laidTests := true, laidLooks := .later }
def ExprTablesCardSaid : Prop := Claim7.holds Tryd.pinned (.plain (OpenSpec.ofChange exprTablesSpec)) exprTablesCard

/-- THE TIED CARD OF 'weathercocklaw08.ExprFits'. -/
def exprFitsCard : Claim7 := { stood := { row := exprFitsRow, standIns := [], harness := (true, "edab7dc787b41a9a18e9760226a39786daf9891fdaa37f815131f09a2725da65"), looks := false }, kinds := [], alts := [], laidByText := true, laidKinds := [.data, .data, .data], laidTests := true, laidLooks := .later }
def ExprFitsCardSaid : Prop := Claim7.holds Tryd.pinned (.plain (OpenSpec.ofChange exprFitsSpec)) exprFitsCard

/-- THE TIED CARD OF 'weathercocklaw08.ExprBuilt'. -/
def exprBuiltCard : Claim7 := { stood := { row := exprBuiltRow, standIns := [], harness := (true, "edab7dc787b41a9a18e9760226a39786daf9891fdaa37f815131f09a2725da65"), looks := false }, kinds := [], alts := [], laidByText := true, laidKinds := [.data, .data, .data], laidTests := true, laidLooks := .later }
def ExprBuiltCardSaid : Prop := Claim7.holds Tryd.pinned (.plain (OpenSpec.ofChange exprBuiltSpec)) exprBuiltCard

/-- THE TIED CARD OF 'weathercocklaw08.ExprApart'. -/
def exprApartCard : Claim7 := { stood := { row := exprApartRow, standIns := [], harness := (true, "edab7dc787b41a9a18e9760226a39786daf9891fdaa37f815131f09a2725da65"), looks := false }, kinds := [], alts := [], laidByText := true, laidKinds := [.data, .data, .data], laidTests := true, laidLooks := .later }
def ExprApartCardSaid : Prop := Claim7.holds Tryd.pinned (.plain (OpenSpec.ofChange exprApartSpec)) exprApartCard

/-- THE TIED CARD OF 'weathercocklaw08.ExprSplits'. -/
def exprSplitsCard : Claim7 := { stood := { row := exprSplitsRow, standIns := [], harness := (true, "edab7dc787b41a9a18e9760226a39786daf9891fdaa37f815131f09a2725da65"), looks := false }, kinds := [], alts := [], laidByText := true, laidKinds := [.data, .data, .data], laidTests := true, laidLooks := .later }
def ExprSplitsCardSaid : Prop := Claim7.holds Tryd.pinned (.plain (OpenSpec.ofChange exprSplitsSpec)) exprSplitsCard

/-- THE TIED CARD OF 'weathercocklaw08.ExprTells'. -/
def exprTellsCard : Claim7 := { stood := { row := exprTellsRow, standIns := [], harness := (true, "edab7dc787b41a9a18e9760226a39786daf9891fdaa37f815131f09a2725da65"), looks := false }, kinds := [], alts := [], laidByText := true, laidKinds := [.data, .data, .data], laidTests := true, laidLooks := .later }
def ExprTellsCardSaid : Prop := Claim7.holds Tryd.pinned (.plain (OpenSpec.ofChange exprTellsSpec)) exprTellsCard

/-- THE SECOND FORM's CARD OF 'weathercocklaw08.ExprKinds'. -/
def exprKindsUptoCard : Claim7 := { stood := { row := exprKindsUptoRow, standIns := [], harness := (true, "edab7dc787b41a9a18e9760226a39786daf9891fdaa37f815131f09a2725da65"), looks := false }, kinds := [], alts := [], laidByText := true, laidKinds := [.data, .data, .data], laidTests := true, laidLooks := .later }
def ExprKindsUptoCardSaid : Prop := Claim7.holds Tryd.pinned (.plain (OpenSpec.upto exprKindsSpec)) exprKindsUptoCard

/-- THE SECOND FORM's CARD OF 'weathercocklaw08.ExprValues'. -/
def exprValuesUptoCard : Claim7 := { stood := { row := exprValuesUptoRow, standIns := [], harness := (true, "edab7dc787b41a9a18e9760226a39786daf9891fdaa37f815131f09a2725da65"), looks := false }, kinds := [], alts := [], laidByText := true, laidKinds := [.data, .data, .data], laidTests := true, laidLooks := .later }
def ExprValuesUptoCardSaid : Prop := Claim7.holds Tryd.pinned (.plain (OpenSpec.upto exprValuesSpec)) exprValuesUptoCard

/-- THE SECOND FORM's CARD OF 'weathercocklaw08.ExprTables'. -/
def exprTablesUptoCard : Claim7 := { stood := { row := exprTablesUptoRow, standIns := [], harness := (true, "edab7dc787b41a9a18e9760226a39786daf9891fdaa37f815131f09a2725da65"), looks := false }, kinds := [], alts := [], laidByText := true, laidKinds := [.data, .data, .data], laidTests := true, laidLooks := .later }
def ExprTablesUptoCardSaid : Prop := Claim7.holds Tryd.pinned (.plain (OpenSpec.upto exprTablesSpec)) exprTablesUptoCard

/-- THE SECOND FORM's CARD OF 'weathercocklaw08.ExprFits'. -/
def exprFitsUptoCard : Claim7 := { stood := { row := exprFitsUptoRow, standIns := [], harness := (true, "edab7dc787b41a9a18e9760226a39786daf9891fdaa37f815131f09a2725da65"), looks := false }, kinds := [], alts := [], laidByText := true, laidKinds := [.data, .data, .data], laidTests := true, laidLooks := .later }
def ExprFitsUptoCardSaid : Prop := Claim7.holds Tryd.pinned (.plain (OpenSpec.upto exprFitsSpec)) exprFitsUptoCard

/-- THE SECOND FORM's CARD OF 'weathercocklaw08.ExprBuilt'. -/
def exprBuiltUptoCard : Claim7 := { stood := { row := exprBuiltUptoRow, standIns := [], harness := (true, "edab7dc787b41a9a18e9760226a39786daf9891fdaa37f815131f09a2725da65"), looks := false }, kinds := [], alts := [], laidByText := true, laidKinds := [.data, .data, .data], laidTests := true, laidLooks := .later }
def ExprBuiltUptoCardSaid : Prop := Claim7.holds Tryd.pinned (.plain (OpenSpec.upto exprBuiltSpec)) exprBuiltUptoCard

/-- THE SECOND FORM's CARD OF 'weathercocklaw08.ExprApart'. -/
def exprApartUptoCard : Claim7 := { stood := { row := exprApartUptoRow, standIns := [], harness := (true, "edab7dc787b41a9a18e9760226a39786daf9891fdaa37f815131f09a2725da65"), looks := false }, kinds := [], alts := [], laidByText := true, laidKinds := [.data, .data, .data], laidTests := true, laidLooks := .later }
def ExprApartUptoCardSaid : Prop := Claim7.holds Tryd.pinned (.plain (OpenSpec.upto exprApartSpec)) exprApartUptoCard

/-- THE SECOND FORM's CARD OF 'weathercocklaw08.ExprSplits'. -/
def exprSplitsUptoCard : Claim7 := { stood := { row := exprSplitsUptoRow, standIns := [], harness := (true, "edab7dc787b41a9a18e9760226a39786daf9891fdaa37f815131f09a2725da65"), looks := false }, kinds := [], alts := [], laidByText := true, laidKinds := [.data, .data, .data], laidTests := true, laidLooks := .later }
def ExprSplitsUptoCardSaid : Prop := Claim7.holds Tryd.pinned (.plain (OpenSpec.upto exprSplitsSpec)) exprSplitsUptoCard

/-- THE SECOND FORM's CARD OF 'weathercocklaw08.ExprTells'. -/
def exprTellsUptoCard : Claim7 := { stood := { row := exprTellsUptoRow, standIns := [], harness := (true, "edab7dc787b41a9a18e9760226a39786daf9891fdaa37f815131f09a2725da65"), looks := false }, kinds := [], alts := [], laidByText := true, laidKinds := [.data, .data, .data], laidTests := true, laidLooks := .later }
def ExprTellsUptoCardSaid : Prop := Claim7.holds Tryd.pinned (.plain (OpenSpec.upto exprTellsSpec)) exprTellsUptoCard
end Rows
end Go.Proofs.YtkboodfnegedaaaDoor
