/- The closed statement StoreNames: the function returns true in every world; nothing is asked of an input, for there is none. -/
import Derived.Test.YtggbhdcgfnjogaaPStoreNamesx1
namespace Go.Proofs.Ytggbhdcgfnjogaa.Pure
open Go.Proofs.Ytggbhdcgfnjogaa.PStoreNames

theorem StoreNames : stratalaw17_StoreNames.Pure := rfl

end Go.Proofs.Ytggbhdcgfnjogaa.Pure
