import Derived.Test.YtggbhdcgfnjogaaGreatDoorKWWords
import Derived.Test.YtggbhdcgfnjogaaGreatDoorKWLast
namespace Go.Proofs.YtggbhdcgfnjogaaGreatDoorW.PrintMore
open Go.RowKit Go.Proofs.YtggbhdcgfnjogaaGreatDoorW.PrintWords
namespace Kd
open Go.Proofs.YtggbhdcgfnjogaaGreatDoorW.PrintWords.Kd
end Kd
namespace Kd
open Go.Proofs.YtggbhdcgfnjogaaGreatDoorW.PrintWords.Kd
end Kd
end Go.Proofs.YtggbhdcgfnjogaaGreatDoorW.PrintMore
namespace Go.Proofs.YtggbhdcgfnjogaaGreatDoorW.PrintWords
open Go.RowKit
section
variable {P : Program} {ops : Array Oper} {rest : List Oper} {o : Oper} {a : Act} {Q : Exit → Act → World → Prop} {W : World}
theorem qC {f : FuncId} {as : Array Operand} {ts : Array TypeId} (_ho : o.op = .call { callee := .value (.func f), args := as, argTypes := ts }) (h : wpList P ops Q (o :: rest) a W) : wpList P ops Q (o :: rest) a W := h
theorem qQ {b : Builtin} {xs : Array Operand} {ts : Array TypeId} (_ho : o.op = .call { callee := .builtin b, args := xs, argTypes := ts }) (h : wpList P ops Q (o :: rest) a W) : wpList P ops Q (o :: rest) a W := h
end
def shl (k : IntKind) (x y : Int) : Int := k.wrap (x * 2 ^ min y.toNat k.bits)
theorem shl_small {k : IntKind} {x y j : Int} (h : shl k x y = j) (hy : y ≤ k.bits) : k.wrap (x * 2 ^ y.toNat) = j := by rw [← h]; unfold shl; rw [Nat.min_eq_left (by omega)]
theorem xr (w : World) (n : Nat) : w.drewN n = w.drewN n := rfl
namespace Kd
end Kd
end Go.Proofs.YtggbhdcgfnjogaaGreatDoorW.PrintWords
namespace Go.Proofs.YtggbhdcgfnjogaaGreatDoorW.PrintWords
open Go.RowKit
namespace Kd
end Kd
end Go.Proofs.YtggbhdcgfnjogaaGreatDoorW.PrintWords

