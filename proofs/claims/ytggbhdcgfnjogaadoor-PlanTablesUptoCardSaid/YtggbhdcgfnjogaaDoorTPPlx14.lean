import Derived.Test.YtggbhdcgfnjogaaDoorTPPlx0
import Derived.Test.YtggbhdcgfnjogaaDoorTPPlx10
import Derived.Test.YtggbhdcgfnjogaaDoorTPPlx11
import Derived.Test.YtggbhdcgfnjogaaDoorTPPlx12
import Derived.Test.YtggbhdcgfnjogaaDoorTPPlx13
namespace Go.Proofs.YtggbhdcgfnjogaaDoor.PPl
open Go.RowKit Go.Proofs.YtggbhdcgfnjogaaDoorW.PrintWords Go.Proofs.YtggbhdcgfnjogaaDoorW.PrintLast Go.Proofs.YtggbhdcgfnjogaaDoorW.PrintMore
set_option linter.unusedVariables false
set_option linter.unusedSimpArgs false
def stratalaw16_num.f (a0 : Int) : Option (Int) := some a0
set_option maxHeartbeats 8000000 in
set_option maxRecDepth 100000 in
theorem stratalaw16_num.calls (a0 : Int) (r : Int) (w : World) (h : stratalaw16_num.f a0 = some r) :
 Calls Tryd.prog 13 #[.int .i64 a0] w fun e w' => e = .returned (.int .i64 r) ∧ Drawn0 w w' := by
 have H : (some a0) = some r := h
 clear h
 obtain rfl := Option.some.inj H
 go_enter Tryd.func13, Tryd.ntmps13
 go_wp2
 go_ret
 exact ⟨by first | rfl | (simp; done) | (simp [*]; done), by repeat (first | exact Drawn0.refl _ | apply Drawn0.step)⟩
end Go.Proofs.YtggbhdcgfnjogaaDoor.PPl

