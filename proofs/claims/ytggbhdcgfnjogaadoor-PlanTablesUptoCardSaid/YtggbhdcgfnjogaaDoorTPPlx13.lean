import Derived.Test.YtggbhdcgfnjogaaDoorTPPlx0
import Derived.Test.YtggbhdcgfnjogaaDoorTPPlx6
import Derived.Test.YtggbhdcgfnjogaaDoorTPPlx11
import Derived.Test.YtggbhdcgfnjogaaDoorTPPlx12
namespace Go.Proofs.YtggbhdcgfnjogaaDoor.PPl
open Go.RowKit Go.Proofs.YtggbhdcgfnjogaaDoorW.PrintWords Go.Proofs.YtggbhdcgfnjogaaDoorW.PrintLast Go.Proofs.YtggbhdcgfnjogaaDoorW.PrintMore
set_option linter.unusedVariables false
set_option linter.unusedSimpArgs false
theorem strOfNums_app (a b : List Int) : strOfNums a ++ strOfNums b = strOfNums (a ++ b) := by
 apply ByteArray.ext
 simp [strOfNums]
theorem strOfNums_bytes (s : ByteArray) : strOfNums (bytesOf s) = s := by
 apply ByteArray.ext
 apply Array.toList_inj.1
 rw [strOfNums_data]
 simp [bytesOf, List.map_map, Function.comp_def]
end Go.Proofs.YtggbhdcgfnjogaaDoor.PPl

