import Derived.Test.YtggbhdcgfnjogaaGreatDoorKLawVals
import Derived.Test.YtggbhdcgfnjogaaGreatDoorKPPcx20
set_option linter.unusedVariables false
namespace Go.Proofs.YtggbhdcgfnjogaaGreatDoor.PlanLaw
open Go.RowKit Go.Proofs.YtggbhdcgfnjogaaGreatDoor.PPc Go.Proofs.YtggbhdcgfnjogaaGreatDoorW.PrintWords Go.Proofs.YtggbhdcgfnjogaaGreatDoorW.PrintLast
def noPair (e : Int) : ByteArray × ByteArray × Int := (⟨#[]⟩, ⟨#[]⟩, e)
theorem faultsOf_zero {l : List S42} (hl : l.length ≤ 16) (h : ∀ x ∈ l, xp x = 0) : zY l = 0 := by
 unfold zY;rw [if_neg (by omega)]
 exact flt_zero.2 h
end Go.Proofs.YtggbhdcgfnjogaaGreatDoor.PlanLaw

