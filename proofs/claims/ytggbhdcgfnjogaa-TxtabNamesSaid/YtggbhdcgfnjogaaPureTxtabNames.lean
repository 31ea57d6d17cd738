/- The closed statement TxtabNames: the function returns true in every world; nothing is asked of an input, for there is none. -/
import Derived.Test.YtggbhdcgfnjogaaPTxtabNamesx1
namespace Go.Proofs.Ytggbhdcgfnjogaa.Pure
open Go.Proofs.Ytggbhdcgfnjogaa.PTxtabNames

theorem TxtabNames : stratalaw06_TxtabNames.Pure := rfl

end Go.Proofs.Ytggbhdcgfnjogaa.Pure
