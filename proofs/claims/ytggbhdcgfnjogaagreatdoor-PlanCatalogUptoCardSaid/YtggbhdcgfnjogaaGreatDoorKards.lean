/-
  DERIVED. GIVEN WITH THE SEED: THE CARDS: each row of YtggbhdcgfnjogaaGreatDoorRows.lean that lists a variable, with what it lists TIED to the program's text (the seventh form; the later family's looks); each row that meets fmt, with fmt's text TOLD by the authors' own Lean function (tested against real Go, not proved from fmt's source: count such statements apart). THE CARD IS WHAT COUNTS. Prove the row's statement (the work); the ties are given (YtggbhdcgfnjogaaGreatDoorTie.lean); close each card by the builder's one call (the guide's Derived/Test/ToyasCard.lean, 'card_holds'). Laid BY PROGRAM, IN A SANDBOX (cutbox-door.mjs). By AI agents, Wed Nov 11 2026. No macro, syntax, notation, axiom, sorry.
-/
import Derived.Test.YtggbhdcgfnjogaaGreatDoorRows
import GoSem.ClaimSeven
namespace Go.Proofs.YtggbhdcgfnjogaaGreatDoor
namespace Rows

/-- THE TIED CARD OF 'stratalaw16.PlanCatalog'. -/
def planCatalogCard : Claim7 := { stood := { row := planCatalogRow, standIns := [], harness := (true, "bd56f1abf139bfc6d2752c784d1394f956cea1d7e60281df509eb9d3a207ae57"), looks := true }, kinds := [], alts := [], laidByText := true, laidKinds := [.data, .data, .pinned], laidTests := true, laidLooks := .later }
def PlanCatalogCardSaid : Prop := Claim7.holds Tryz.pinned (.plain (OpenSpec.ofChange planCatalogSpec)) planCatalogCard

/-- THE SECOND FORM's CARD OF 'stratalaw16.PlanCatalog'. -/
def planCatalogUptoCard : Claim7 := { stood := { row := planCatalogUptoRow, standIns := [], harness := (true, "bd56f1abf139bfc6d2752c784d1394f956cea1d7e60281df509eb9d3a207ae57"), looks := true }, kinds := [], alts := [], laidByText := true, laidKinds := [.data, .data, .pinned], laidTests := true, laidLooks := .later }
def PlanCatalogUptoCardSaid : Prop := Claim7.holds Tryz.pinned (.plain (OpenSpec.upto planCatalogSpec)) planCatalogUptoCard
end Rows
end Go.Proofs.YtggbhdcgfnjogaaGreatDoor
