/-
  DERIVED. GIVEN WITH THE SEED: THE CARDS: each row of YtfmgbgkcmmpcfaaDoorRows.lean that lists a variable, with what it lists TIED to the program's text (the seventh form; the later family's looks); each row that meets fmt, with fmt's text TOLD by the authors' own Lean function (tested against real Go, not proved from fmt's source: count such statements apart). THE CARD IS WHAT COUNTS. Prove the row's statement (the work); the ties are given (YtfmgbgkcmmpcfaaDoorTie.lean); close each card by the builder's one call (the guide's Derived/Test/ToyasCard.lean, 'card_holds'). Laid BY PROGRAM, IN A SANDBOX (cutbox-door.mjs). By AI agents, Wed Nov 11 2026. No macro, syntax, notation, axiom, sorry.
-/
import Derived.Test.YtfmgbgkcmmpcfaaDoorRows
import GoSem.ClaimSeven
namespace Go.Proofs.YtfmgbgkcmmpcfaaDoor
namespace Rows

/-- THE TIED CARD OF 'stratalaw15.TonguePrintsExpr'. -/
def tonguePrintsExprCard : Claim7 := { stood := { row := tonguePrintsExprRow, standIns := [], harness := (true, "c6230321eddd2b9d1095ddbc45492306793a710f91f0cdcc71da9c66875533d2"), looks := true }, kinds := [], alts := [], laidByText := true, laidKinds := [.data, .data, .data, .data, .pinned], laidTests := true, laidLooks := .later }
def TonguePrintsExprCardSaid : Prop := Claim7.holds Tryd.pinned (.plain (OpenSpec.ofChange tonguePrintsExprSpec)) tonguePrintsExprCard

/-- THE SECOND FORM's CARD OF 'stratalaw15.TonguePrintsExpr'. -/
def tonguePrintsExprUptoCard : Claim7 := { stood := { row := tonguePrintsExprUptoRow, standIns := [], harness := (true, "c6230321eddd2b9d1095ddbc45492306793a710f91f0cdcc71da9c66875533d2"), looks := true }, kinds := [], alts := [], laidByText := true, laidKinds := [.data, .data, .data, .data, .pinned], laidTests := true, laidLooks := .later }
def TonguePrintsExprUptoCardSaid : Prop := Claim7.holds Tryd.pinned (.plain (OpenSpec.upto tonguePrintsExprSpec)) tonguePrintsExprUptoCard
end Rows
end Go.Proofs.YtfmgbgkcmmpcfaaDoor
