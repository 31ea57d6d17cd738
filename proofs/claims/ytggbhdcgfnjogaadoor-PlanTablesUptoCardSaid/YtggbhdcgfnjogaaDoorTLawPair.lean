import Derived.Test.YtggbhdcgfnjogaaDoorTLawVals
import Derived.Test.YtggbhdcgfnjogaaDoorTPPlx14
set_option linter.unusedVariables false
namespace Go.Proofs.YtggbhdcgfnjogaaDoor.PlanLaw
open Go.RowKit Go.Proofs.YtggbhdcgfnjogaaDoor.PPl Go.Proofs.YtggbhdcgfnjogaaDoorW.PrintWords Go.Proofs.YtggbhdcgfnjogaaDoorW.PrintLast
def noPair (e : Int) : ByteArray × ByteArray × Int := (⟨#[]⟩, ⟨#[]⟩, e)
theorem faultsOf_zero {l : List S84} (hl : l.length ≤ 16) (h : ∀ x ∈ l, fault x = 0) : faultsOf l = 0 := by
 unfold faultsOf
 rw [if_neg (by omega)]
 exact flt_zero.2 h
end Go.Proofs.YtggbhdcgfnjogaaDoor.PlanLaw

