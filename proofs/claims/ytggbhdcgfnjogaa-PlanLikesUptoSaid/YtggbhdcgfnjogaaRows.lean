/-
  No cell of these rows narrows 'for every input' (looked for: loops, veiled, ifaces, maps, wideKeys, modest, calm, conditions, laid).
  DERIVED. THE GIVEN ROWS OF THIS SEAT. 5 by the template 'for every input the law returns true; each argument reads behind the call as it read before'; 0 by the template 'total and deterministic' (their statements: YtggbhdcgfnjogaaTotals.lean).
  GIVEN WITH THE SEED: the statements are not yours to turn. If you find one false, say at which input.
  Laid BY PROGRAM, IN A SANDBOX (cutbox-rows.mjs): the forced cells as the released guide's own fill.sh prints them over the translation 437210502b3f4bbd… (all of the seat's roots in one cut). By AI agents, Wed Nov 11 2026. No macro, syntax, notation, axiom, sorry.
-/
import Derived.Test.YtggbhdcgfnjogaaChecked
import GoSem.Claim
import GoSem.ClaimJoined
import GoSem.ClaimMapViews
import Derived.JoinedTies
import Derived.KernelRfl
namespace Go.Proofs.Ytggbhdcgfnjogaa
/- THE CELL 'sum', in the pinned program and in every row, IS THE sha256 OF THE DUMP (.gsa) THAT YtggbhdcgfnjogaaProg.lean LOADS. Nothing in Lean hashes anything: it is a label: what it is worth is what the hold of that sum in a sandbox is worth. -/
noncomputable def Try.pinned : Pinned := { name := "ytggbhdcgfnjogaa", sum := "437210502b3f4bbd75aa57d0e7c13041dcddbd23781f3659c1d17599e8285fc6", checked := Try.checked }
namespace Rows
def none {H : Type} : Left H := { results := [], args := [] }

/-- 'stratalaw06.TxtabNames': WHATEVER THE INPUT: true; the input reads as it did. -/
def txtabNamesSpec : ChangeSpec := { name := "txtabNames", fn := fun _ => fun
  | [] => { results := [.lit (.bool true)], args := [] }
  | _ => none }
def txtabNamesRow : OpenClaim := { program := "ytggbhdcgfnjogaa", sum := "437210502b3f4bbd75aa57d0e7c13041dcddbd23781f3659c1d17599e8285fc6", func := "strata/stratalaw06.TxtabNames", spec := "txtabNames", apart := false }
def TxtabNamesSaid : Prop := txtabNamesRow.holds Try.pinned (OpenSpec.ofChange txtabNamesSpec)

/-- ITS FALSE NEIGHBOUR: 'it returns false'. Refute it at one input. -/
def txtabNamesWrong : ChangeSpec := { name := "txtabNames", fn := fun _ => fun
  | [] => { results := [.lit (.bool false)], args := [] }
  | _ => none }
def TxtabNamesWrongFalsely : Prop := txtabNamesRow.holds Try.pinned (OpenSpec.ofChange txtabNamesWrong)

/-- 'stratalaw15.TongueNames': WHATEVER THE INPUT: true; the input reads as it did. -/
def tongueNamesSpec : ChangeSpec := { name := "tongueNames", fn := fun _ => fun
  | [] => { results := [.lit (.bool true)], args := [] }
  | _ => none }
def tongueNamesRow : OpenClaim := { program := "ytggbhdcgfnjogaa", sum := "437210502b3f4bbd75aa57d0e7c13041dcddbd23781f3659c1d17599e8285fc6", func := "strata/stratalaw15.TongueNames", spec := "tongueNames", apart := false }
def TongueNamesSaid : Prop := tongueNamesRow.holds Try.pinned (OpenSpec.ofChange tongueNamesSpec)

/-- ITS FALSE NEIGHBOUR: 'it returns false'. Refute it at one input. -/
def tongueNamesWrong : ChangeSpec := { name := "tongueNames", fn := fun _ => fun
  | [] => { results := [.lit (.bool false)], args := [] }
  | _ => none }
def TongueNamesWrongFalsely : Prop := tongueNamesRow.holds Try.pinned (OpenSpec.ofChange tongueNamesWrong)

/-- 'stratalaw16.PlanNames': WHATEVER THE INPUT: true; the input reads as it did. -/
def planNamesSpec : ChangeSpec := { name := "planNames", fn := fun _ => fun
  | [] => { results := [.lit (.bool true)], args := [] }
  | _ => none }
def planNamesRow : OpenClaim := { program := "ytggbhdcgfnjogaa", sum := "437210502b3f4bbd75aa57d0e7c13041dcddbd23781f3659c1d17599e8285fc6", func := "strata/stratalaw16.PlanNames", spec := "planNames", apart := false }
def PlanNamesSaid : Prop := planNamesRow.holds Try.pinned (OpenSpec.ofChange planNamesSpec)

/-- ITS FALSE NEIGHBOUR: 'it returns false'. Refute it at one input. -/
def planNamesWrong : ChangeSpec := { name := "planNames", fn := fun _ => fun
  | [] => { results := [.lit (.bool false)], args := [] }
  | _ => none }
def PlanNamesWrongFalsely : Prop := planNamesRow.holds Try.pinned (OpenSpec.ofChange planNamesWrong)

/-- 'stratalaw17.StoreNames': WHATEVER THE INPUT: true; the input reads as it did. -/
def storeNamesSpec : ChangeSpec := { name := "storeNames", fn := fun _ => fun
  | [] => { results := [.lit (.bool true)], args := [] }
  | _ => none }
def storeNamesRow : OpenClaim := { program := "ytggbhdcgfnjogaa", sum := "437210502b3f4bbd75aa57d0e7c13041dcddbd23781f3659c1d17599e8285fc6", func := "strata/stratalaw17.StoreNames", spec := "storeNames", apart := false }
def StoreNamesSaid : Prop := storeNamesRow.holds Try.pinned (OpenSpec.ofChange storeNamesSpec)

/-- ITS FALSE NEIGHBOUR: 'it returns false'. Refute it at one input. -/
def storeNamesWrong : ChangeSpec := { name := "storeNames", fn := fun _ => fun
  | [] => { results := [.lit (.bool false)], args := [] }
  | _ => none }
def StoreNamesWrongFalsely : Prop := storeNamesRow.holds Try.pinned (OpenSpec.ofChange storeNamesWrong)

/-- 'stratalaw16.PlanLikes': WHATEVER THE INPUT: true; the input reads as it did. -/
def planLikesSpec : ChangeSpec := { name := "planLikes", fn := fun _ => fun
  | [d1, d2] => { results := [.lit (.bool true)], args := [d1, d2] }
  | _ => none }
def planLikesRow : OpenClaim := { program := "ytggbhdcgfnjogaa", sum := "437210502b3f4bbd75aa57d0e7c13041dcddbd23781f3659c1d17599e8285fc6", func := "strata/stratalaw16.PlanLikes", spec := "planLikes", apart := false }
def PlanLikesSaid : Prop := planLikesRow.holds Try.pinned (OpenSpec.ofChange planLikesSpec)

/-- ITS FALSE NEIGHBOUR: 'it returns false'. Refute it at one input. -/
def planLikesWrong : ChangeSpec := { name := "planLikes", fn := fun _ => fun
  | [d1, d2] => { results := [.lit (.bool false)], args := [d1, d2] }
  | _ => none }
def PlanLikesWrongFalsely : Prop := planLikesRow.holds Try.pinned (OpenSpec.ofChange planLikesWrong)

/- THE SECOND FORM. 'bulk': how many values and letters a reading holds, each counted each time it is reached (what is shared counts as often as it is met; a slice's spare places count too). A statement '..UptoSaid' is the law's where the arguments, and the package variables that the reading takes, are together of bulk at most 1048576: NARROWER than '..Said'. Prove '..Said' where nothing that the law and all that it calls make is longer than what came in: it says more and counts as full. Else prove '..UptoSaid'. A law counts once. -/
mutual
def uptoBulk {H : Type} : DataW H → Nat
  | .lit (.string bytes) => bytes.length + 1
  | .lit _ => 1
  | .nil => 1
  | .ptr d => uptoBulk d + 1
  | .slice elems spare => uptoBulkAll elems + uptoBulkAll spare + 1
  | .agg parts => uptoBulkAll parts + 1
  | .iface _ d => uptoBulk d + 1
  | .map entries => uptoBulkEntries entries + 1
  | .held _ => 1
def uptoBulkAll {H : Type} : List (DataW H) → Nat
  | [] => 0
  | d :: r => uptoBulk d + uptoBulkAll r
def uptoBulkEntries {H : Type} : List (Lit × DataW H) → Nat
  | [] => 0
  | x :: r => uptoBulkEntry x + uptoBulkEntries r
def uptoBulkEntry {H : Type} : Lit × DataW H → Nat
  | (.string bytes, d) => bytes.length + uptoBulk d + 1
  | (_, d) => uptoBulk d + 1
 end
def uptoSmall : (H : Type) → List (DataW H) → Bool := fun _ ds => decide (uptoBulkAll ds ≤ 1048576)
def OpenSpec.upto (s : _root_.Go.ChangeSpec) : _root_.Go.OpenSpec := { _root_.Go.OpenSpec.ofChange s with cond := some uptoSmall }

/-- 'stratalaw06.TxtabNames', WHERE WHAT IT READS IS OF BULK AT MOST 1048576: true; the input reads as it did. -/
def txtabNamesUptoRow : OpenClaim := { program := "ytggbhdcgfnjogaa", sum := "437210502b3f4bbd75aa57d0e7c13041dcddbd23781f3659c1d17599e8285fc6", func := "strata/stratalaw06.TxtabNames", spec := "txtabNames", apart := false, narrowed := true }
def TxtabNamesUptoSaid : Prop := txtabNamesUptoRow.holds Try.pinned (OpenSpec.upto txtabNamesSpec)

/-- 'stratalaw15.TongueNames', WHERE WHAT IT READS IS OF BULK AT MOST 1048576: true; the input reads as it did. -/
def tongueNamesUptoRow : OpenClaim := { program := "ytggbhdcgfnjogaa", sum := "437210502b3f4bbd75aa57d0e7c13041dcddbd23781f3659c1d17599e8285fc6", func := "strata/stratalaw15.TongueNames", spec := "tongueNames", apart := false, narrowed := true }
def TongueNamesUptoSaid : Prop := tongueNamesUptoRow.holds Try.pinned (OpenSpec.upto tongueNamesSpec)

/-- 'stratalaw16.PlanNames', WHERE WHAT IT READS IS OF BULK AT MOST 1048576: true; the input reads as it did. -/
def planNamesUptoRow : OpenClaim := { program := "ytggbhdcgfnjogaa", sum := "437210502b3f4bbd75aa57d0e7c13041dcddbd23781f3659c1d17599e8285fc6", func := "strata/stratalaw16.PlanNames", spec := "planNames", apart := false, narrowed := true }
def PlanNamesUptoSaid : Prop := planNamesUptoRow.holds Try.pinned (OpenSpec.upto planNamesSpec)

/-- 'stratalaw17.StoreNames', WHERE WHAT IT READS IS OF BULK AT MOST 1048576: true; the input reads as it did. -/
def storeNamesUptoRow : OpenClaim := { program := "ytggbhdcgfnjogaa", sum := "437210502b3f4bbd75aa57d0e7c13041dcddbd23781f3659c1d17599e8285fc6", func := "strata/stratalaw17.StoreNames", spec := "storeNames", apart := false, narrowed := true }
def StoreNamesUptoSaid : Prop := storeNamesUptoRow.holds Try.pinned (OpenSpec.upto storeNamesSpec)

/-- 'stratalaw16.PlanLikes', WHERE WHAT IT READS IS OF BULK AT MOST 1048576: true; the input reads as it did. -/
def planLikesUptoRow : OpenClaim := { program := "ytggbhdcgfnjogaa", sum := "437210502b3f4bbd75aa57d0e7c13041dcddbd23781f3659c1d17599e8285fc6", func := "strata/stratalaw16.PlanLikes", spec := "planLikes", apart := false, narrowed := true }
def PlanLikesUptoSaid : Prop := planLikesUptoRow.holds Try.pinned (OpenSpec.upto planLikesSpec)

end Rows
end Go.Proofs.Ytggbhdcgfnjogaa
