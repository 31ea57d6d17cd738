/-
  DERIVED. GIVEN WITH THE SEED: THE CARDS: each row of YtggbhdcgfnjogaaDoorRows.lean that lists a variable, with what it lists TIED to the program's text (the seventh form; the later family's looks); each row that meets fmt, with fmt's text TOLD by the authors' own Lean function (tested against real Go, not proved from fmt's source: count such statements apart). THE CARD IS WHAT COUNTS. Prove the row's statement (the work); the ties are given (YtggbhdcgfnjogaaDoorTie.lean); close each card by the builder's one call (the guide's Derived/Test/ToyasCard.lean, 'card_holds'). Laid BY PROGRAM, IN A SANDBOX (cutbox-door.mjs). By AI agents, Wed Nov 11 2026. No macro, syntax, notation, axiom, sorry.
-/
import Derived.Test.YtggbhdcgfnjogaaDoorRows
import GoSem.ClaimSeven
namespace Go.Proofs.YtggbhdcgfnjogaaDoor
namespace Rows

/-- THE TIED CARD OF 'stratalaw17.StorePrints'. -/
def storePrintsCard : Claim7 := { stood := { row := storePrintsRow, standIns := [], harness := (true, "4475e7e1dfcec3187fca9d3715401d9f80a5e51c80e6668bc3beecfb178e5f3d"), looks := true }, kinds := [], alts := [], laidByText := true, laidKinds := [.data, .data, .data, .data, .data, .pinned], laidTests := true, laidLooks := .later }
def StorePrintsCardSaid : Prop := Claim7.holds Tryd.pinned (.plain (OpenSpec.ofChange storePrintsSpec)) storePrintsCard

/-- THE TIED CARD OF 'stratalaw16.PlanRows'. -/
def planRowsCard : Claim7 := { stood := { row := planRowsRow, standIns := [], harness := (true, "4475e7e1dfcec3187fca9d3715401d9f80a5e51c80e6668bc3beecfb178e5f3d"), looks := true }, kinds := [], alts := [], laidByText := true, laidKinds := [.data, .data, .pinned], laidTests := true, laidLooks := .later }
def PlanRowsCardSaid : Prop := Claim7.holds Tryd.pinned (.plain (OpenSpec.ofChange planRowsSpec)) planRowsCard

/-- THE TIED CARD OF 'stratalaw16.PlanPairs'. -/
def planPairsCard : Claim7 := { stood := { row := planPairsRow, standIns := [], harness := (true, "4475e7e1dfcec3187fca9d3715401d9f80a5e51c80e6668bc3beecfb178e5f3d"), looks := true }, kinds := [], alts := [], laidByText := true, laidKinds := [.data, .data, .pinned], laidTests := true, laidLooks := .later }
def PlanPairsCardSaid : Prop := Claim7.holds Tryd.pinned (.plain (OpenSpec.ofChange planPairsSpec)) planPairsCard

/-- THE TIED CARD OF 'stratalaw16.PlanTables'. -/
def planTablesCard : Claim7 := { stood := { row := planTablesRow, standIns := [], harness := (true, "4475e7e1dfcec3187fca9d3715401d9f80a5e51c80e6668bc3beecfb178e5f3d"), looks := true }, kinds := [], alts := [], laidByText := true, laidKinds := [.data, .data, .pinned], laidTests := true, laidLooks := .later }
def PlanTablesCardSaid : Prop := Claim7.holds Tryd.pinned (.plain (OpenSpec.ofChange planTablesSpec)) planTablesCard

/-- THE SECOND FORM's CARD OF 'stratalaw17.StorePrints'. -/
def storePrintsUptoCard : Claim7 := { stood := { row := storePrintsUptoRow, standIns := [], harness := (true, "4475e7e1dfcec3187fca9d3715401d9f80a5e51c80e6668bc3beecfb178e5f3d"), looks := true }, kinds := [], alts := [], laidByText := true, laidKinds := [.data, .data, .data, .data, .data, .pinned], laidTests := true, laidLooks := .later }
def StorePrintsUptoCardSaid : Prop := Claim7.holds Tryd.pinned (.plain (OpenSpec.upto storePrintsSpec)) storePrintsUptoCard

/-- THE SECOND FORM's CARD OF 'stratalaw16.PlanRows'. -/
def planRowsUptoCard : Claim7 := { stood := { row := planRowsUptoRow, standIns := [], harness := (true, "4475e7e1dfcec3187fca9d3715401d9f80a5e51c80e6668bc3beecfb178e5f3d"), looks := true }, kinds := [], alts := [], laidByText := true, laidKinds := [.data, .data, .pinned], laidTests := true, laidLooks := .later }
def PlanRowsUptoCardSaid : Prop := Claim7.holds Tryd.pinned (.plain (OpenSpec.upto planRowsSpec)) planRowsUptoCard

/-- THE SECOND FORM's CARD OF 'stratalaw16.PlanPairs'. -/
def planPairsUptoCard : Claim7 := { stood := { row := planPairsUptoRow, standIns := [], harness := (true, "4475e7e1dfcec3187fca9d3715401d9f80a5e51c80e6668bc3beecfb178e5f3d"), looks := true }, kinds := [], alts := [], laidByText := true, laidKinds := [.data, .data, .pinned], laidTests := true, laidLooks := .later }
def PlanPairsUptoCardSaid : Prop := Claim7.holds Tryd.pinned (.plain (OpenSpec.upto planPairsSpec)) planPairsUptoCard

/-- THE SECOND FORM's CARD OF 'stratalaw16.PlanTables'. -/
def planTablesUptoCard : Claim7 := { stood := { row := planTablesUptoRow, standIns := [], harness := (true, "4475e7e1dfcec3187fca9d3715401d9f80a5e51c80e6668bc3beecfb178e5f3d"), looks := true }, kinds := [], alts := [], laidByText := true, laidKinds := [.data, .data, .pinned], laidTests := true, laidLooks := .later }
def PlanTablesUptoCardSaid : Prop := Claim7.holds Tryd.pinned (.plain (OpenSpec.upto planTablesSpec)) planTablesUptoCard
end Rows
end Go.Proofs.YtggbhdcgfnjogaaDoor
