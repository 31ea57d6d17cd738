import Derived.Test.YtggbhdcgfnjogaaDoorTWWords
import Derived.Test.YtggbhdcgfnjogaaDoorTWLast
namespace Go.Proofs.YtggbhdcgfnjogaaDoorW.PrintMore
open Go.RowKit Go.Proofs.YtggbhdcgfnjogaaDoorW.PrintWords
namespace Kd
open Go.Proofs.YtggbhdcgfnjogaaDoorW.PrintWords.Kd
end Kd
namespace Kd
open Go.Proofs.YtggbhdcgfnjogaaDoorW.PrintWords.Kd
end Kd
end Go.Proofs.YtggbhdcgfnjogaaDoorW.PrintMore
namespace Go.Proofs.YtggbhdcgfnjogaaDoorW.PrintWords
open Go.RowKit
section
variable {P : Program} {ops : Array Oper} {rest : List Oper} {o : Oper} {a : Act} {Q : Exit → Act → World → Prop} {W : World}
theorem gate_callee {f : FuncId} {as : Array Operand} {ts : Array TypeId} (_ho : o.op = .call { callee := .value (.func f), args := as, argTypes := ts }) (h : wpList P ops Q (o :: rest) a W) : wpList P ops Q (o :: rest) a W := h
theorem gate_builtin {b : Builtin} {xs : Array Operand} {ts : Array TypeId} (_ho : o.op = .call { callee := .builtin b, args := xs, argTypes := ts }) (h : wpList P ops Q (o :: rest) a W) : wpList P ops Q (o :: rest) a W := h
end
def shl (k : IntKind) (x y : Int) : Int := k.wrap (x * 2 ^ min y.toNat k.bits)
theorem shl_small {k : IntKind} {x y j : Int} (h : shl k x y = j) (hy : y ≤ k.bits) : k.wrap (x * 2 ^ y.toNat) = j := by rw [← h]; unfold shl; rw [Nat.min_eq_left (by omega)]
namespace Kd
end Kd
end Go.Proofs.YtggbhdcgfnjogaaDoorW.PrintWords
namespace Go.Proofs.YtggbhdcgfnjogaaDoorW.PrintWords
open Go.RowKit
namespace Kd
end Kd
end Go.Proofs.YtggbhdcgfnjogaaDoorW.PrintWords

