/- The closed statement TongueNames: the function returns true in every world; nothing is asked of an input, for there is none. -/
import Derived.Test.YtggbhdcgfnjogaaPTongueNamesx1
namespace Go.Proofs.Ytggbhdcgfnjogaa.Pure
open Go.Proofs.Ytggbhdcgfnjogaa.PTongueNames

theorem TongueNames : stratalaw15_TongueNames.Pure := rfl

end Go.Proofs.Ytggbhdcgfnjogaa.Pure
