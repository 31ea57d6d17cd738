import Derived.Test.YtfmgbgkcmmpcfaaGreatDoorCWWords
import Derived.Test.YtfmgbgkcmmpcfaaGreatDoorCWLast
namespace Go.Proofs.YtfmgbgkcmmpcfaaGreatDoorW.PrintMore
open Go.RowKit Go.Proofs.YtfmgbgkcmmpcfaaGreatDoorW.PrintWords
namespace Kd
open Go.Proofs.YtfmgbgkcmmpcfaaGreatDoorW.PrintWords.Kd
end Kd
namespace Kd
open Go.Proofs.YtfmgbgkcmmpcfaaGreatDoorW.PrintWords.Kd
end Kd
theorem zp (k k' : IntKind) (x y : Int) : Builtin.max2 (.int k x) (.int k' y) = pure (.int k (if x < y then y else x)) := by simp only [Builtin.max2, gt_iff_lt]
theorem zC (ats : Array TypeId) (ty : TypeId) (a b : Value) : Builtin.max_ ats ty #[a, b] = (Builtin.max2 a b >>= fun s => pure s) := by simp only [Builtin.max_, List.foldlM_cons, List.foldlM_nil]
end Go.Proofs.YtfmgbgkcmmpcfaaGreatDoorW.PrintMore
namespace Go.Proofs.YtfmgbgkcmmpcfaaGreatDoorW.PrintWords
open Go.RowKit
section
variable {P : Program} {ops : Array Oper} {rest : List Oper} {o : Oper} {a : Act} {Q : Exit → Act → World → Prop} {W : World}
theorem qI {f : FuncId} {as : Array Operand} {ts : Array TypeId} (_ho : o.op = .call { callee := .value (.func f), args := as, argTypes := ts }) (h : wpList P ops Q (o :: rest) a W) : wpList P ops Q (o :: rest) a W := h
theorem xp {b : Builtin} {xs : Array Operand} {ts : Array TypeId} (_ho : o.op = .call { callee := .builtin b, args := xs, argTypes := ts }) (h : wpList P ops Q (o :: rest) a W) : wpList P ops Q (o :: rest) a W := h
end
namespace Kd
end Kd
end Go.Proofs.YtfmgbgkcmmpcfaaGreatDoorW.PrintWords
namespace Go.Proofs.YtfmgbgkcmmpcfaaGreatDoorW.PrintWords
open Go.RowKit
namespace Kd
end Kd
end Go.Proofs.YtfmgbgkcmmpcfaaGreatDoorW.PrintWords

