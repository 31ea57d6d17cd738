/-
  DERIVED. GIVEN WITH THE SEED: THE CARDS: each row of YtfmgbgkcmmpcfaaGreatDoorRows.lean that lists a variable, with what it lists TIED to the program's text (the seventh form; the later family's looks); each row that meets fmt, with fmt's text TOLD by the authors' own Lean function (tested against real Go, not proved from fmt's source: count such statements apart). THE CARD IS WHAT COUNTS. Prove the row's statement (the work); the ties are given (YtfmgbgkcmmpcfaaGreatDoorTie.lean); close each card by the builder's one call (the guide's Derived/Test/ToyasCard.lean, 'card_holds'). Laid BY PROGRAM, IN A SANDBOX (cutbox-door.mjs). By AI agents, Wed Nov 11 2026. No macro, syntax, notation, axiom, sorry.
-/
import Derived.Test.YtfmgbgkcmmpcfaaGreatDoorRows
import GoSem.ClaimSeven
namespace Go.Proofs.YtfmgbgkcmmpcfaaGreatDoor
namespace Rows

/-- THE TIED CARD OF 'stratalaw15.TongueValids'. -/
def tongueValidsCard : Claim7 := { stood := { row := tongueValidsRow, standIns := [], harness := (true, "87a032219895eb326f4978a95e2ea001201cbfbb5356c85af027b43009cdfa87"), looks := true }, kinds := [], alts := [], laidByText := true, laidKinds := [.data, .data, .data, .data, .pinned], laidTests := true, laidLooks := .later }
def TongueValidsCardSaid : Prop := Claim7.holds Tryz.pinned (.plain (OpenSpec.ofChange tongueValidsSpec)) tongueValidsCard

/-- THE TIED CARD OF 'stratalaw15.TonguePrints'. -/
def tonguePrintsCard : Claim7 := { stood := { row := tonguePrintsRow, standIns := [], harness := (true, "87a032219895eb326f4978a95e2ea001201cbfbb5356c85af027b43009cdfa87"), looks := true }, kinds := [], alts := [], laidByText := true, laidKinds := [.data, .data, .data, .data, .pinned], laidTests := true, laidLooks := .later }
def TonguePrintsCardSaid : Prop := Claim7.holds Tryz.pinned (.plain (OpenSpec.ofChange tonguePrintsSpec)) tonguePrintsCard

/-- THE TIED CARD OF 'stratalaw16.PlanKinds'. -/
def planKindsCard : Claim7 := { stood := { row := planKindsRow, standIns := [], harness := (true, "87a032219895eb326f4978a95e2ea001201cbfbb5356c85af027b43009cdfa87"), looks := true }, kinds := [], alts := [], laidByText := true, laidKinds := [.data, .data, .data, .data, .handle, .pinned], laidTests := true, laidLooks := .later }
def PlanKindsCardSaid : Prop := Claim7.holds Tryz.pinned (.plain (OpenSpec.ofChange planKindsSpec)) planKindsCard

/-- THE TIED CARD OF 'stratalaw16.PlanDefines'. -/
def planDefinesCard : Claim7 := { stood := { row := planDefinesRow, standIns := [], harness := (true, "87a032219895eb326f4978a95e2ea001201cbfbb5356c85af027b43009cdfa87"), looks := true }, kinds := [], alts := [], laidByText := true, laidKinds := [.data, .data, .data, .data, .pinned], laidTests := true, laidLooks := .later }
def PlanDefinesCardSaid : Prop := Claim7.holds Tryz.pinned (.plain (OpenSpec.ofChange planDefinesSpec)) planDefinesCard

/-- THE SECOND FORM's CARD OF 'stratalaw15.TongueValids'. -/
def tongueValidsUptoCard : Claim7 := { stood := { row := tongueValidsUptoRow, standIns := [], harness := (true, "87a032219895eb326f4978a95e2ea001201cbfbb5356c85af027b43009cdfa87"), looks := true }, kinds := [], alts := [], laidByText := true, laidKinds := [.data, .data, .data, .data, .pinned], laidTests := true, laidLooks := .later }
def TongueValidsUptoCardSaid : Prop := Claim7.holds Tryz.pinned (.plain (OpenSpec.upto tongueValidsSpec)) tongueValidsUptoCard

/-- THE SECOND FORM's CARD OF 'stratalaw15.TonguePrints'. -/
def tonguePrintsUptoCard : Claim7 := { stood := { row := tonguePrintsUptoRow, standIns := [], harness := (true, "87a032219895eb326f4978a95e2ea001201cbfbb5356c85af027b43009cdfa87"), looks := true }, kinds := [], alts := [], laidByText := true, laidKinds := [.data, .data, .data, .data, .pinned], laidTests := true, laidLooks := .later }
def TonguePrintsUptoCardSaid : Prop := Claim7.holds Tryz.pinned (.plain (OpenSpec.upto tonguePrintsSpec)) tonguePrintsUptoCard

/-- THE SECOND FORM's CARD OF 'stratalaw16.PlanKinds'. -/
def planKindsUptoCard : Claim7 := { stood := { row := planKindsUptoRow, standIns := [], harness := (true, "87a032219895eb326f4978a95e2ea001201cbfbb5356c85af027b43009cdfa87"), looks := true }, kinds := [], alts := [], laidByText := true, laidKinds := [.data, .data, .data, .data, .handle, .pinned], laidTests := true, laidLooks := .later }
def PlanKindsUptoCardSaid : Prop := Claim7.holds Tryz.pinned (.plain (OpenSpec.upto planKindsSpec)) planKindsUptoCard

/-- THE SECOND FORM's CARD OF 'stratalaw16.PlanDefines'. -/
def planDefinesUptoCard : Claim7 := { stood := { row := planDefinesUptoRow, standIns := [], harness := (true, "87a032219895eb326f4978a95e2ea001201cbfbb5356c85af027b43009cdfa87"), looks := true }, kinds := [], alts := [], laidByText := true, laidKinds := [.data, .data, .data, .data, .pinned], laidTests := true, laidLooks := .later }
def PlanDefinesUptoCardSaid : Prop := Claim7.holds Tryz.pinned (.plain (OpenSpec.upto planDefinesSpec)) planDefinesUptoCard
end Rows
end Go.Proofs.YtfmgbgkcmmpcfaaGreatDoor
