-- Laid by inj.py, a program of this session, which runs the kit's print tool beside contracts typed by hand. Not trusted: Lean checks it.
import Derived.Test.YtggbhdcgfnjogaaProg
import Derived.Below
import Derived.Deep.Draws
import Derived.Deep.AppendLies
import Derived.Maps.AppendAt
import Derived.OwnWalk
import Derived.Laws.BytesArg
import Derived.Laws.MakeOwn
import Derived.Laws.OwnMore
import Derived.Deep.OwnRows
import Derived.Tactics
import Derived.Lib.ConvBytes
import Derived.Laws.Slices
import Derived.WalkKit
import Derived.KernelRfl
import Derived.RowKit3
import Derived.Deep.LoopGhost
import Derived.Deep.QuietTactic
import Derived.BigQuiet
import Derived.WideLaws
import Derived.Deep.DeepCutAuto
import Derived.Deep.CutBlock
import Derived.Deep.RegionHeld3
import Derived.Laws.Rows
import Derived.Lib.AppendStr
import Derived.ArgAppend
import Derived.Laws.IdiomCopy
import Derived.OrdersHeld
import Derived.Laws.BitsLemmas
import Derived.RowKit
import Derived.Lib.OthersKept
import Derived.Test.YtggbhdcgfnjogaaWWords
import Derived.Test.YtggbhdcgfnjogaaWLast
import Derived.Test.YtggbhdcgfnjogaaWTab
import Derived.Test.YtggbhdcgfnjogaaWFour
import Derived.Test.YtggbhdcgfnjogaaWQPut
import Derived.Test.YtggbhdcgfnjogaaWApart
import Derived.Test.YtggbhdcgfnjogaaWArr
import Derived.Test.YtggbhdcgfnjogaaWZeros
import Derived.Test.YtggbhdcgfnjogaaWFoot
import Derived.Test.YtggbhdcgfnjogaaWKept
import Derived.Test.YtggbhdcgfnjogaaWShare
import Derived.Test.YtggbhdcgfnjogaaWN
import Derived.Test.YtggbhdcgfnjogaaWFootNe
import Derived.Test.YtggbhdcgfnjogaaWAt
import Derived.Test.YtggbhdcgfnjogaaWEqStruct
import Derived.Test.YtggbhdcgfnjogaaWRepsOne
import Derived.Test.YtggbhdcgfnjogaaWInv
import Derived.Test.YtggbhdcgfnjogaaWInvWords
import Derived.Test.YtggbhdcgfnjogaaWGuard
import Derived.Test.YtggbhdcgfnjogaaWNEv
import Derived.Test.YtggbhdcgfnjogaaWMore
namespace Go.Proofs.Ytggbhdcgfnjogaa.PLk
open Go.RowKit Go.Proofs.YtggbhdcgfnjogaaW.PrintWords Go.Proofs.YtggbhdcgfnjogaaW.PrintLast Go.Proofs.YtggbhdcgfnjogaaW.PrintMore
attribute [local go_sem] max2_int min2_int max_two min_two max_three min_three max_four min_four   -- for this text's walks alone
set_option linter.unusedVariables false
set_option linter.unusedSimpArgs false



def errW : Option Int → Value
  | none => .nilIface
  | some c => .iface 0 (.int .i64 c)
theorem errW_none : errW none = .nilIface := rfl
theorem errW_some (c : Int) : errW (some c) = .iface 0 (.int .i64 c) := rfl

theorem info4 : (Try.prog.info? 4).map (fun i => (i.zero, i.size, i.bytes)) = some (some (.bool false), 1, 1) := by kernel_rfl
theorem info9 : (Try.prog.info? 9).map (fun i => (i.zero, i.size, i.bytes)) = some (some (.string ⟨#[]⟩), 1, 16) := by kernel_rfl
-- the values' own types

/-- A string's iterator is no row: a row of the call's own stays where the iterator moves on, and the iterator stays where the row grows. -/
theorem iter_kept {α : Type} {d : Kd α} {e : Nat} {W W1 : World} {base b : Nat} {ok : Nat → Prop} {v : Value} {xs : List α} {s : ByteArray} {p : Nat} (hi : W.heap[b]? = some (.stringIter s p)) (h : d.R e W base ok v xs)
    (hm : ∀ k, k ≠ b → W1.heap[k]? = W.heap[k]?) : d.R e W1 base ok v xs := by
  refine Kd.R_mono (Kd.R_move (Kd.R_bound h) (fun k hk => hm k ?_)) (fun k hk => hk.1)
  rintro rfl
  obtain ⟨q, _, cells, hc⟩ := hk.2.2.2
  rw [hi] at hc
  cases hc
theorem iter_grown {α : Type} {d : Kd α} {e : Nat} {W W1 : World} {base b : Nat} {ok : Nat → Prop} {v : Value} {xs : List α} {s : ByteArray} {p : Nat} (hi : W.heap[b]? = some (.stringIter s p)) (h : d.R e W base ok v xs)
    (hg : W.grownBy W1 v.ownBlock) : W1.heap[b]? = some (.stringIter s p) := by
  refine (hg.block b (Array.getElem?_eq_some_iff.1 hi).1 ?_).trans hi
  intro hk
  obtain ⟨cells, hc⟩ := Kd.R_typed h b hk.symm
  rw [hi] at hc
  cases hc


end Go.Proofs.Ytggbhdcgfnjogaa.PLk
