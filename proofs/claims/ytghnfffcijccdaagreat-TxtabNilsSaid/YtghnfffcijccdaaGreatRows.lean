/-
  No cell of these rows narrows 'for every input' (looked for: loops, veiled, ifaces, maps, wideKeys, modest, calm, conditions, laid).
  DERIVED. THE GIVEN ROWS OF THIS SEAT. 8 by the template 'for every input the law returns true; each argument reads behind the call as it read before'; 0 by the template 'total and deterministic' (their statements: YtghnfffcijccdaaGreatTotals.lean).
  GIVEN WITH THE SEED: the statements are not yours to turn. If you find one false, say at which input.
  Laid BY PROGRAM, IN A SANDBOX (cutbox-rows.mjs): the forced cells as the released guide's own fill.sh prints them over the translation 2c276b4a359aecd1… (all of the seat's roots in one cut). By AI agents, Wed Nov 11 2026. No macro, syntax, notation, axiom, sorry.
-/
import Derived.Test.YtghnfffcijccdaaGreatChecked
import GoSem.Claim
import GoSem.ClaimJoined
import GoSem.ClaimMapViews
import Derived.JoinedTies
import Derived.KernelRfl
namespace Go.Proofs.YtghnfffcijccdaaGreat
/- THE CELL 'sum', in the pinned program and in every row, IS THE sha256 OF THE DUMP (.gsa) THAT YtghnfffcijccdaaGreatProg.lean LOADS. Nothing in Lean hashes anything: it is a label: what it is worth is what the hold of that sum in a sandbox is worth. -/
noncomputable def Tryz.pinned : Pinned := { name := "ytghnfffcijccdaagreat", sum := "2c276b4a359aecd14c6e337b8141fe241af5f5a77c7e58f2ee2dcf1ee58e0513", checked := Tryz.checked }
namespace Rows
def none {H : Type} : Left H := { results := [], args := [] }

/-- 'stratalaw06.TxtabStamps': WHATEVER THE INPUT: true; the input reads as it did. -/
def txtabStampsSpec : ChangeSpec := { name := "txtabStamps", fn := fun _ => fun
  | [d1, d2, d3, d4] => { results := [.lit (.bool true)], args := [d1, d2, d3, d4] }
  | _ => none }
def txtabStampsRow : OpenClaim := { program := "ytghnfffcijccdaagreat", sum := "2c276b4a359aecd14c6e337b8141fe241af5f5a77c7e58f2ee2dcf1ee58e0513", func := "strata/stratalaw06.TxtabStamps", spec := "txtabStamps", inPlace := ["(*internal/sync.Mutex).Lock", "internal/race.Disable", "sync/atomic.CompareAndSwapInt32", "internal/race.Enable", "internal/race.Acquire", "(*internal/sync.Mutex).lockSlow", "internal/sync.runtime_canSpin", "internal/sync.runtime_doSpin", "internal/sync.throw", "internal/sync.runtime_nanotime", "internal/sync.runtime_SemacquireMutex", "sync/atomic.AddInt32", "(*internal/sync.Mutex).Unlock", "internal/race.ReleaseMerge", "(*internal/sync.Mutex).unlockSlow", "internal/sync.fatal", "internal/sync.runtime_Semrelease", "sync/atomic.StoreUint64", "sync/atomic.StoreInt64", "sync/atomic.AddUint64", "sync/atomic.LoadUint64", "sync/atomic.CompareAndSwapUint64", "sync/atomic.LoadInt64"], unfollowed := true, recurses := true, apart := false }
def TxtabStampsSaid : Prop := txtabStampsRow.holds Tryz.pinned (OpenSpec.ofChange txtabStampsSpec)

/-- ITS FALSE NEIGHBOUR: 'it returns false'. Refute it at one input. -/
def txtabStampsWrong : ChangeSpec := { name := "txtabStamps", fn := fun _ => fun
  | [d1, d2, d3, d4] => { results := [.lit (.bool false)], args := [d1, d2, d3, d4] }
  | _ => none }
def TxtabStampsWrongFalsely : Prop := txtabStampsRow.holds Tryz.pinned (OpenSpec.ofChange txtabStampsWrong)

/-- 'stratalaw06.TxtabFloors': WHATEVER THE INPUT: true; the input reads as it did. -/
def txtabFloorsSpec : ChangeSpec := { name := "txtabFloors", fn := fun _ => fun
  | [d1, d2, d3, d4] => { results := [.lit (.bool true)], args := [d1, d2, d3, d4] }
  | _ => none }
def txtabFloorsRow : OpenClaim := { program := "ytghnfffcijccdaagreat", sum := "2c276b4a359aecd14c6e337b8141fe241af5f5a77c7e58f2ee2dcf1ee58e0513", func := "strata/stratalaw06.TxtabFloors", spec := "txtabFloors", inPlace := ["(*internal/sync.Mutex).Lock", "internal/race.Disable", "sync/atomic.CompareAndSwapInt32", "internal/race.Enable", "internal/race.Acquire", "(*internal/sync.Mutex).lockSlow", "internal/sync.runtime_canSpin", "internal/sync.runtime_doSpin", "internal/sync.throw", "internal/sync.runtime_nanotime", "internal/sync.runtime_SemacquireMutex", "sync/atomic.AddInt32", "(*internal/sync.Mutex).Unlock", "internal/race.ReleaseMerge", "(*internal/sync.Mutex).unlockSlow", "internal/sync.fatal", "internal/sync.runtime_Semrelease", "sync/atomic.StoreUint64", "sync/atomic.StoreInt64", "sync/atomic.AddUint64", "sync/atomic.LoadUint64", "sync/atomic.CompareAndSwapUint64", "sync/atomic.LoadInt64"], unfollowed := true, recurses := true, apart := false }
def TxtabFloorsSaid : Prop := txtabFloorsRow.holds Tryz.pinned (OpenSpec.ofChange txtabFloorsSpec)

/-- ITS FALSE NEIGHBOUR: 'it returns false'. Refute it at one input. -/
def txtabFloorsWrong : ChangeSpec := { name := "txtabFloors", fn := fun _ => fun
  | [d1, d2, d3, d4] => { results := [.lit (.bool false)], args := [d1, d2, d3, d4] }
  | _ => none }
def TxtabFloorsWrongFalsely : Prop := txtabFloorsRow.holds Tryz.pinned (OpenSpec.ofChange txtabFloorsWrong)

/-- 'stratalaw06.TxtabFrees': WHATEVER THE INPUT: true; the input reads as it did. -/
def txtabFreesSpec : ChangeSpec := { name := "txtabFrees", fn := fun _ => fun
  | [d1, d2, d3, d4] => { results := [.lit (.bool true)], args := [d1, d2, d3, d4] }
  | _ => none }
def txtabFreesRow : OpenClaim := { program := "ytghnfffcijccdaagreat", sum := "2c276b4a359aecd14c6e337b8141fe241af5f5a77c7e58f2ee2dcf1ee58e0513", func := "strata/stratalaw06.TxtabFrees", spec := "txtabFrees", inPlace := ["(*internal/sync.Mutex).Lock", "internal/race.Disable", "sync/atomic.CompareAndSwapInt32", "internal/race.Enable", "internal/race.Acquire", "(*internal/sync.Mutex).lockSlow", "internal/sync.runtime_canSpin", "internal/sync.runtime_doSpin", "internal/sync.throw", "internal/sync.runtime_nanotime", "internal/sync.runtime_SemacquireMutex", "sync/atomic.AddInt32", "(*internal/sync.Mutex).Unlock", "internal/race.ReleaseMerge", "(*internal/sync.Mutex).unlockSlow", "internal/sync.fatal", "internal/sync.runtime_Semrelease", "sync/atomic.StoreUint64", "sync/atomic.StoreInt64", "sync/atomic.AddUint64", "sync/atomic.LoadUint64", "sync/atomic.CompareAndSwapUint64", "sync/atomic.LoadInt64"], unfollowed := true, recurses := true, apart := false }
def TxtabFreesSaid : Prop := txtabFreesRow.holds Tryz.pinned (OpenSpec.ofChange txtabFreesSpec)

/-- ITS FALSE NEIGHBOUR: 'it returns false'. Refute it at one input. -/
def txtabFreesWrong : ChangeSpec := { name := "txtabFrees", fn := fun _ => fun
  | [d1, d2, d3, d4] => { results := [.lit (.bool false)], args := [d1, d2, d3, d4] }
  | _ => none }
def TxtabFreesWrongFalsely : Prop := txtabFreesRow.holds Tryz.pinned (OpenSpec.ofChange txtabFreesWrong)

/-- 'stratalaw06.TxtabWaits': WHATEVER THE INPUT: true; the input reads as it did. -/
def txtabWaitsSpec : ChangeSpec := { name := "txtabWaits", fn := fun _ => fun
  | [d1, d2, d3, d4] => { results := [.lit (.bool true)], args := [d1, d2, d3, d4] }
  | _ => none }
def txtabWaitsRow : OpenClaim := { program := "ytghnfffcijccdaagreat", sum := "2c276b4a359aecd14c6e337b8141fe241af5f5a77c7e58f2ee2dcf1ee58e0513", func := "strata/stratalaw06.TxtabWaits", spec := "txtabWaits", inPlace := ["(*internal/sync.Mutex).Lock", "internal/race.Disable", "sync/atomic.CompareAndSwapInt32", "internal/race.Enable", "internal/race.Acquire", "(*internal/sync.Mutex).lockSlow", "internal/sync.runtime_canSpin", "internal/sync.runtime_doSpin", "internal/sync.throw", "internal/sync.runtime_nanotime", "internal/sync.runtime_SemacquireMutex", "sync/atomic.AddInt32", "(*internal/sync.Mutex).Unlock", "internal/race.ReleaseMerge", "(*internal/sync.Mutex).unlockSlow", "internal/sync.fatal", "internal/sync.runtime_Semrelease", "sync/atomic.StoreUint64", "sync/atomic.StoreInt64", "sync/atomic.AddUint64", "sync/atomic.LoadUint64", "sync/atomic.CompareAndSwapUint64", "sync/atomic.LoadInt64"], unfollowed := true, recurses := true, apart := false }
def TxtabWaitsSaid : Prop := txtabWaitsRow.holds Tryz.pinned (OpenSpec.ofChange txtabWaitsSpec)

/-- ITS FALSE NEIGHBOUR: 'it returns false'. Refute it at one input. -/
def txtabWaitsWrong : ChangeSpec := { name := "txtabWaits", fn := fun _ => fun
  | [d1, d2, d3, d4] => { results := [.lit (.bool false)], args := [d1, d2, d3, d4] }
  | _ => none }
def TxtabWaitsWrongFalsely : Prop := txtabWaitsRow.holds Tryz.pinned (OpenSpec.ofChange txtabWaitsWrong)

/-- 'stratalaw06.TxtabNils': WHATEVER THE INPUT: true; the input reads as it did. -/
def txtabNilsSpec : ChangeSpec := { name := "txtabNils", fn := fun _ => fun
  | [] => { results := [.lit (.bool true)], args := [] }
  | _ => none }
def txtabNilsRow : OpenClaim := { program := "ytghnfffcijccdaagreat", sum := "2c276b4a359aecd14c6e337b8141fe241af5f5a77c7e58f2ee2dcf1ee58e0513", func := "strata/stratalaw06.TxtabNils", spec := "txtabNils", inPlace := ["(*internal/sync.Mutex).Lock", "internal/race.Disable", "sync/atomic.CompareAndSwapInt32", "internal/race.Enable", "internal/race.Acquire", "(*internal/sync.Mutex).lockSlow", "internal/sync.runtime_canSpin", "internal/sync.runtime_doSpin", "internal/sync.throw", "internal/sync.runtime_nanotime", "internal/sync.runtime_SemacquireMutex", "sync/atomic.AddInt32", "(*internal/sync.Mutex).Unlock", "internal/race.ReleaseMerge", "(*internal/sync.Mutex).unlockSlow", "internal/sync.fatal", "internal/sync.runtime_Semrelease", "sync/atomic.StoreUint64", "sync/atomic.LoadUint64", "sync/atomic.CompareAndSwapUint64", "sync/atomic.AddUint64", "sync/atomic.LoadInt64", "sync/atomic.StoreInt64"], unfollowed := true, recurses := true, apart := false }
def TxtabNilsSaid : Prop := txtabNilsRow.holds Tryz.pinned (OpenSpec.ofChange txtabNilsSpec)

/-- ITS FALSE NEIGHBOUR: 'it returns false'. Refute it at one input. -/
def txtabNilsWrong : ChangeSpec := { name := "txtabNils", fn := fun _ => fun
  | [] => { results := [.lit (.bool false)], args := [] }
  | _ => none }
def TxtabNilsWrongFalsely : Prop := txtabNilsRow.holds Tryz.pinned (OpenSpec.ofChange txtabNilsWrong)

/-- 'stratalaw06.TxtabTable': WHATEVER THE INPUT: true; the input reads as it did. -/
def txtabTableSpec : ChangeSpec := { name := "txtabTable", fn := fun _ => fun
  | [d1, d2, d3] => { results := [.lit (.bool true)], args := [d1, d2, d3] }
  | _ => none }
def txtabTableRow : OpenClaim := { program := "ytghnfffcijccdaagreat", sum := "2c276b4a359aecd14c6e337b8141fe241af5f5a77c7e58f2ee2dcf1ee58e0513", func := "strata/stratalaw06.TxtabTable", spec := "txtabTable", inPlace := ["sync/atomic.LoadInt64", "sync/atomic.LoadUint64", "(*internal/sync.Mutex).Lock", "internal/race.Disable", "sync/atomic.CompareAndSwapInt32", "internal/race.Enable", "internal/race.Acquire", "(*internal/sync.Mutex).lockSlow", "internal/sync.runtime_canSpin", "internal/sync.runtime_doSpin", "internal/sync.throw", "internal/sync.runtime_nanotime", "internal/sync.runtime_SemacquireMutex", "sync/atomic.AddInt32", "(*internal/sync.Mutex).Unlock", "internal/race.ReleaseMerge", "(*internal/sync.Mutex).unlockSlow", "internal/sync.fatal", "internal/sync.runtime_Semrelease", "sync/atomic.StoreInt64", "sync/atomic.StoreUint64", "sync/atomic.CompareAndSwapUint64", "sync/atomic.AddUint64"], unfollowed := true, recurses := true, apart := false }
def TxtabTableSaid : Prop := txtabTableRow.holds Tryz.pinned (OpenSpec.ofChange txtabTableSpec)

/-- ITS FALSE NEIGHBOUR: 'it returns false'. Refute it at one input. -/
def txtabTableWrong : ChangeSpec := { name := "txtabTable", fn := fun _ => fun
  | [d1, d2, d3] => { results := [.lit (.bool false)], args := [d1, d2, d3] }
  | _ => none }
def TxtabTableWrongFalsely : Prop := txtabTableRow.holds Tryz.pinned (OpenSpec.ofChange txtabTableWrong)

/-- 'stratalaw06.TxtabMachines': WHATEVER THE INPUT: true; the input reads as it did. -/
def txtabMachinesSpec : ChangeSpec := { name := "txtabMachines", fn := fun _ => fun
  | [d1, d2, d3] => { results := [.lit (.bool true)], args := [d1, d2, d3] }
  | _ => none }
def txtabMachinesRow : OpenClaim := { program := "ytghnfffcijccdaagreat", sum := "2c276b4a359aecd14c6e337b8141fe241af5f5a77c7e58f2ee2dcf1ee58e0513", func := "strata/stratalaw06.TxtabMachines", spec := "txtabMachines", inPlace := ["sync/atomic.LoadInt64", "sync/atomic.LoadUint64", "(*internal/sync.Mutex).Lock", "internal/race.Disable", "sync/atomic.CompareAndSwapInt32", "internal/race.Enable", "internal/race.Acquire", "(*internal/sync.Mutex).lockSlow", "internal/sync.runtime_canSpin", "internal/sync.runtime_doSpin", "internal/sync.throw", "internal/sync.runtime_nanotime", "internal/sync.runtime_SemacquireMutex", "sync/atomic.AddInt32", "(*internal/sync.Mutex).Unlock", "internal/race.ReleaseMerge", "(*internal/sync.Mutex).unlockSlow", "internal/sync.fatal", "internal/sync.runtime_Semrelease", "sync/atomic.StoreInt64", "sync/atomic.StoreUint64", "sync/atomic.CompareAndSwapUint64", "sync/atomic.AddUint64"], unfollowed := true, recurses := true, apart := false }
def TxtabMachinesSaid : Prop := txtabMachinesRow.holds Tryz.pinned (OpenSpec.ofChange txtabMachinesSpec)

/-- ITS FALSE NEIGHBOUR: 'it returns false'. Refute it at one input. -/
def txtabMachinesWrong : ChangeSpec := { name := "txtabMachines", fn := fun _ => fun
  | [d1, d2, d3] => { results := [.lit (.bool false)], args := [d1, d2, d3] }
  | _ => none }
def TxtabMachinesWrongFalsely : Prop := txtabMachinesRow.holds Tryz.pinned (OpenSpec.ofChange txtabMachinesWrong)

/-- 'stratalaw06.TxtabPair': WHATEVER THE INPUT: true; the input reads as it did. -/
def txtabPairSpec : ChangeSpec := { name := "txtabPair", fn := fun _ => fun
  | [d1, d2, d3, d4, d5] => { results := [.lit (.bool true)], args := [d1, d2, d3, d4, d5] }
  | _ => none }
def txtabPairRow : OpenClaim := { program := "ytghnfffcijccdaagreat", sum := "2c276b4a359aecd14c6e337b8141fe241af5f5a77c7e58f2ee2dcf1ee58e0513", func := "strata/stratalaw06.TxtabPair", spec := "txtabPair", inPlace := ["sync/atomic.LoadInt64", "sync/atomic.LoadUint64", "(*internal/sync.Mutex).Lock", "internal/race.Disable", "sync/atomic.CompareAndSwapInt32", "internal/race.Enable", "internal/race.Acquire", "(*internal/sync.Mutex).lockSlow", "internal/sync.runtime_canSpin", "internal/sync.runtime_doSpin", "internal/sync.throw", "internal/sync.runtime_nanotime", "internal/sync.runtime_SemacquireMutex", "sync/atomic.AddInt32", "(*internal/sync.Mutex).Unlock", "internal/race.ReleaseMerge", "(*internal/sync.Mutex).unlockSlow", "internal/sync.fatal", "internal/sync.runtime_Semrelease", "sync/atomic.StoreInt64", "sync/atomic.StoreUint64", "sync/atomic.CompareAndSwapUint64", "sync/atomic.AddUint64"], unfollowed := true, recurses := true, apart := false }
def TxtabPairSaid : Prop := txtabPairRow.holds Tryz.pinned (OpenSpec.ofChange txtabPairSpec)

/-- ITS FALSE NEIGHBOUR: 'it returns false'. Refute it at one input. -/
def txtabPairWrong : ChangeSpec := { name := "txtabPair", fn := fun _ => fun
  | [d1, d2, d3, d4, d5] => { results := [.lit (.bool false)], args := [d1, d2, d3, d4, d5] }
  | _ => none }
def TxtabPairWrongFalsely : Prop := txtabPairRow.holds Tryz.pinned (OpenSpec.ofChange txtabPairWrong)

/- THE SECOND FORM. 'bulk': how many values and letters a reading holds, each counted each time it is reached (what is shared counts as often as it is met; a slice's spare places count too). A statement '..UptoSaid' is the law's where the arguments, and the package variables that the reading takes, are together of bulk at most 1048576: NARROWER than '..Said'. Prove '..Said' where nothing that the law and all that it calls make is longer than what came in: it says more and counts as full. Else prove '..UptoSaid'. A law counts once. -/
mutual
def uptoBulk {H : Type} : DataW H → Nat
  | .lit (.string bytes) => bytes.length + 1
  | .lit _ => 1
  | .nil => 1
  | .ptr d => uptoBulk d + 1
  | .slice elems spare => uptoBulkAll elems + uptoBulkAll spare + 1
  | .agg parts => uptoBulkAll parts + 1
  | .iface _ d => uptoBulk d + 1
  | .map entries => uptoBulkEntries entries + 1
  | .held _ => 1
def uptoBulkAll {H : Type} : List (DataW H) → Nat
  | [] => 0
  | d :: r => uptoBulk d + uptoBulkAll r
def uptoBulkEntries {H : Type} : List (Lit × DataW H) → Nat
  | [] => 0
  | x :: r => uptoBulkEntry x + uptoBulkEntries r
def uptoBulkEntry {H : Type} : Lit × DataW H → Nat
  | (.string bytes, d) => bytes.length + uptoBulk d + 1
  | (_, d) => uptoBulk d + 1
 end
def uptoSmall : (H : Type) → List (DataW H) → Bool := fun _ ds => decide (uptoBulkAll ds ≤ 1048576)
def OpenSpec.upto (s : _root_.Go.ChangeSpec) : _root_.Go.OpenSpec := { _root_.Go.OpenSpec.ofChange s with cond := some uptoSmall }

/-- 'stratalaw06.TxtabStamps', WHERE WHAT IT READS IS OF BULK AT MOST 1048576: true; the input reads as it did. -/
def txtabStampsUptoRow : OpenClaim := { program := "ytghnfffcijccdaagreat", sum := "2c276b4a359aecd14c6e337b8141fe241af5f5a77c7e58f2ee2dcf1ee58e0513", func := "strata/stratalaw06.TxtabStamps", spec := "txtabStamps", inPlace := ["(*internal/sync.Mutex).Lock", "internal/race.Disable", "sync/atomic.CompareAndSwapInt32", "internal/race.Enable", "internal/race.Acquire", "(*internal/sync.Mutex).lockSlow", "internal/sync.runtime_canSpin", "internal/sync.runtime_doSpin", "internal/sync.throw", "internal/sync.runtime_nanotime", "internal/sync.runtime_SemacquireMutex", "sync/atomic.AddInt32", "(*internal/sync.Mutex).Unlock", "internal/race.ReleaseMerge", "(*internal/sync.Mutex).unlockSlow", "internal/sync.fatal", "internal/sync.runtime_Semrelease", "sync/atomic.StoreUint64", "sync/atomic.StoreInt64", "sync/atomic.AddUint64", "sync/atomic.LoadUint64", "sync/atomic.CompareAndSwapUint64", "sync/atomic.LoadInt64"], unfollowed := true, recurses := true, apart := false, narrowed := true }
def TxtabStampsUptoSaid : Prop := txtabStampsUptoRow.holds Tryz.pinned (OpenSpec.upto txtabStampsSpec)

/-- 'stratalaw06.TxtabFloors', WHERE WHAT IT READS IS OF BULK AT MOST 1048576: true; the input reads as it did. -/
def txtabFloorsUptoRow : OpenClaim := { program := "ytghnfffcijccdaagreat", sum := "2c276b4a359aecd14c6e337b8141fe241af5f5a77c7e58f2ee2dcf1ee58e0513", func := "strata/stratalaw06.TxtabFloors", spec := "txtabFloors", inPlace := ["(*internal/sync.Mutex).Lock", "internal/race.Disable", "sync/atomic.CompareAndSwapInt32", "internal/race.Enable", "internal/race.Acquire", "(*internal/sync.Mutex).lockSlow", "internal/sync.runtime_canSpin", "internal/sync.runtime_doSpin", "internal/sync.throw", "internal/sync.runtime_nanotime", "internal/sync.runtime_SemacquireMutex", "sync/atomic.AddInt32", "(*internal/sync.Mutex).Unlock", "internal/race.ReleaseMerge", "(*internal/sync.Mutex).unlockSlow", "internal/sync.fatal", "internal/sync.runtime_Semrelease", "sync/atomic.StoreUint64", "sync/atomic.StoreInt64", "sync/atomic.AddUint64", "sync/atomic.LoadUint64", "sync/atomic.CompareAndSwapUint64", "sync/atomic.LoadInt64"], unfollowed := true, recurses := true, apart := false, narrowed := true }
def TxtabFloorsUptoSaid : Prop := txtabFloorsUptoRow.holds Tryz.pinned (OpenSpec.upto txtabFloorsSpec)

/-- 'stratalaw06.TxtabFrees', WHERE WHAT IT READS IS OF BULK AT MOST 1048576: true; the input reads as it did. -/
def txtabFreesUptoRow : OpenClaim := { program := "ytghnfffcijccdaagreat", sum := "2c276b4a359aecd14c6e337b8141fe241af5f5a77c7e58f2ee2dcf1ee58e0513", func := "strata/stratalaw06.TxtabFrees", spec := "txtabFrees", inPlace := ["(*internal/sync.Mutex).Lock", "internal/race.Disable", "sync/atomic.CompareAndSwapInt32", "internal/race.Enable", "internal/race.Acquire", "(*internal/sync.Mutex).lockSlow", "internal/sync.runtime_canSpin", "internal/sync.runtime_doSpin", "internal/sync.throw", "internal/sync.runtime_nanotime", "internal/sync.runtime_SemacquireMutex", "sync/atomic.AddInt32", "(*internal/sync.Mutex).Unlock", "internal/race.ReleaseMerge", "(*internal/sync.Mutex).unlockSlow", "internal/sync.fatal", "internal/sync.runtime_Semrelease", "sync/atomic.StoreUint64", "sync/atomic.StoreInt64", "sync/atomic.AddUint64", "sync/atomic.LoadUint64", "sync/atomic.CompareAndSwapUint64", "sync/atomic.LoadInt64"], unfollowed := true, recurses := true, apart := false, narrowed := true }
def TxtabFreesUptoSaid : Prop := txtabFreesUptoRow.holds Tryz.pinned (OpenSpec.upto txtabFreesSpec)

/-- 'stratalaw06.TxtabWaits', WHERE WHAT IT READS IS OF BULK AT MOST 1048576: true; the input reads as it did. -/
def txtabWaitsUptoRow : OpenClaim := { program := "ytghnfffcijccdaagreat", sum := "2c276b4a359aecd14c6e337b8141fe241af5f5a77c7e58f2ee2dcf1ee58e0513", func := "strata/stratalaw06.TxtabWaits", spec := "txtabWaits", inPlace := ["(*internal/sync.Mutex).Lock", "internal/race.Disable", "sync/atomic.CompareAndSwapInt32", "internal/race.Enable", "internal/race.Acquire", "(*internal/sync.Mutex).lockSlow", "internal/sync.runtime_canSpin", "internal/sync.runtime_doSpin", "internal/sync.throw", "internal/sync.runtime_nanotime", "internal/sync.runtime_SemacquireMutex", "sync/atomic.AddInt32", "(*internal/sync.Mutex).Unlock", "internal/race.ReleaseMerge", "(*internal/sync.Mutex).unlockSlow", "internal/sync.fatal", "internal/sync.runtime_Semrelease", "sync/atomic.StoreUint64", "sync/atomic.StoreInt64", "sync/atomic.AddUint64", "sync/atomic.LoadUint64", "sync/atomic.CompareAndSwapUint64", "sync/atomic.LoadInt64"], unfollowed := true, recurses := true, apart := false, narrowed := true }
def TxtabWaitsUptoSaid : Prop := txtabWaitsUptoRow.holds Tryz.pinned (OpenSpec.upto txtabWaitsSpec)

/-- 'stratalaw06.TxtabNils', WHERE WHAT IT READS IS OF BULK AT MOST 1048576: true; the input reads as it did. -/
def txtabNilsUptoRow : OpenClaim := { program := "ytghnfffcijccdaagreat", sum := "2c276b4a359aecd14c6e337b8141fe241af5f5a77c7e58f2ee2dcf1ee58e0513", func := "strata/stratalaw06.TxtabNils", spec := "txtabNils", inPlace := ["(*internal/sync.Mutex).Lock", "internal/race.Disable", "sync/atomic.CompareAndSwapInt32", "internal/race.Enable", "internal/race.Acquire", "(*internal/sync.Mutex).lockSlow", "internal/sync.runtime_canSpin", "internal/sync.runtime_doSpin", "internal/sync.throw", "internal/sync.runtime_nanotime", "internal/sync.runtime_SemacquireMutex", "sync/atomic.AddInt32", "(*internal/sync.Mutex).Unlock", "internal/race.ReleaseMerge", "(*internal/sync.Mutex).unlockSlow", "internal/sync.fatal", "internal/sync.runtime_Semrelease", "sync/atomic.StoreUint64", "sync/atomic.LoadUint64", "sync/atomic.CompareAndSwapUint64", "sync/atomic.AddUint64", "sync/atomic.LoadInt64", "sync/atomic.StoreInt64"], unfollowed := true, recurses := true, apart := false, narrowed := true }
def TxtabNilsUptoSaid : Prop := txtabNilsUptoRow.holds Tryz.pinned (OpenSpec.upto txtabNilsSpec)

/-- 'stratalaw06.TxtabTable', WHERE WHAT IT READS IS OF BULK AT MOST 1048576: true; the input reads as it did. -/
def txtabTableUptoRow : OpenClaim := { program := "ytghnfffcijccdaagreat", sum := "2c276b4a359aecd14c6e337b8141fe241af5f5a77c7e58f2ee2dcf1ee58e0513", func := "strata/stratalaw06.TxtabTable", spec := "txtabTable", inPlace := ["sync/atomic.LoadInt64", "sync/atomic.LoadUint64", "(*internal/sync.Mutex).Lock", "internal/race.Disable", "sync/atomic.CompareAndSwapInt32", "internal/race.Enable", "internal/race.Acquire", "(*internal/sync.Mutex).lockSlow", "internal/sync.runtime_canSpin", "internal/sync.runtime_doSpin", "internal/sync.throw", "internal/sync.runtime_nanotime", "internal/sync.runtime_SemacquireMutex", "sync/atomic.AddInt32", "(*internal/sync.Mutex).Unlock", "internal/race.ReleaseMerge", "(*internal/sync.Mutex).unlockSlow", "internal/sync.fatal", "internal/sync.runtime_Semrelease", "sync/atomic.StoreInt64", "sync/atomic.StoreUint64", "sync/atomic.CompareAndSwapUint64", "sync/atomic.AddUint64"], unfollowed := true, recurses := true, apart := false, narrowed := true }
def TxtabTableUptoSaid : Prop := txtabTableUptoRow.holds Tryz.pinned (OpenSpec.upto txtabTableSpec)

/-- 'stratalaw06.TxtabMachines', WHERE WHAT IT READS IS OF BULK AT MOST 1048576: true; the input reads as it did. -/
def txtabMachinesUptoRow : OpenClaim := { program := "ytghnfffcijccdaagreat", sum := "2c276b4a359aecd14c6e337b8141fe241af5f5a77c7e58f2ee2dcf1ee58e0513", func := "strata/stratalaw06.TxtabMachines", spec := "txtabMachines", inPlace := ["sync/atomic.LoadInt64", "sync/atomic.LoadUint64", "(*internal/sync.Mutex).Lock", "internal/race.Disable", "sync/atomic.CompareAndSwapInt32", "internal/race.Enable", "internal/race.Acquire", "(*internal/sync.Mutex).lockSlow", "internal/sync.runtime_canSpin", "internal/sync.runtime_doSpin", "internal/sync.throw", "internal/sync.runtime_nanotime", "internal/sync.runtime_SemacquireMutex", "sync/atomic.AddInt32", "(*internal/sync.Mutex).Unlock", "internal/race.ReleaseMerge", "(*internal/sync.Mutex).unlockSlow", "internal/sync.fatal", "internal/sync.runtime_Semrelease", "sync/atomic.StoreInt64", "sync/atomic.StoreUint64", "sync/atomic.CompareAndSwapUint64", "sync/atomic.AddUint64"], unfollowed := true, recurses := true, apart := false, narrowed := true }
def TxtabMachinesUptoSaid : Prop := txtabMachinesUptoRow.holds Tryz.pinned (OpenSpec.upto txtabMachinesSpec)

/-- 'stratalaw06.TxtabPair', WHERE WHAT IT READS IS OF BULK AT MOST 1048576: true; the input reads as it did. -/
def txtabPairUptoRow : OpenClaim := { program := "ytghnfffcijccdaagreat", sum := "2c276b4a359aecd14c6e337b8141fe241af5f5a77c7e58f2ee2dcf1ee58e0513", func := "strata/stratalaw06.TxtabPair", spec := "txtabPair", inPlace := ["sync/atomic.LoadInt64", "sync/atomic.LoadUint64", "(*internal/sync.Mutex).Lock", "internal/race.Disable", "sync/atomic.CompareAndSwapInt32", "internal/race.Enable", "internal/race.Acquire", "(*internal/sync.Mutex).lockSlow", "internal/sync.runtime_canSpin", "internal/sync.runtime_doSpin", "internal/sync.throw", "internal/sync.runtime_nanotime", "internal/sync.runtime_SemacquireMutex", "sync/atomic.AddInt32", "(*internal/sync.Mutex).Unlock", "internal/race.ReleaseMerge", "(*internal/sync.Mutex).unlockSlow", "internal/sync.fatal", "internal/sync.runtime_Semrelease", "sync/atomic.StoreInt64", "sync/atomic.StoreUint64", "sync/atomic.CompareAndSwapUint64", "sync/atomic.AddUint64"], unfollowed := true, recurses := true, apart := false, narrowed := true }
def TxtabPairUptoSaid : Prop := txtabPairUptoRow.holds Tryz.pinned (OpenSpec.upto txtabPairSpec)

end Rows
end Go.Proofs.YtghnfffcijccdaaGreat
