/- The closed statement PlanNames: the function returns true in every world; nothing is asked of an input, for there is none. -/
import Derived.Test.YtggbhdcgfnjogaaPPlanNamesx1
namespace Go.Proofs.Ytggbhdcgfnjogaa.Pure
open Go.Proofs.Ytggbhdcgfnjogaa.PPlanNames

theorem PlanNames : stratalaw16_PlanNames.Pure := rfl

end Go.Proofs.Ytggbhdcgfnjogaa.Pure
