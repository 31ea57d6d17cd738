/-
  NARROWER THAN 'FOR EVERY INPUT', by the rows' own cells (each row's printed sentence says how): StorePrints: laid · PlanRows: laid · PlanPairs: laid · PlanTables: laid.
  DERIVED. THE GIVEN ROWS OF THIS SEAT. 4 by the template 'for every input the law returns true; each argument reads behind the call as it read before'; 0 by the template 'total and deterministic' (their statements: YtggbhdcgfnjogaaDoorTotals.lean).
  GIVEN WITH THE SEED: the statements are not yours to turn. If you find one false, say at which input.
  Laid BY PROGRAM, IN A SANDBOX (cutbox-rows.mjs): the forced cells as the released guide's own fill.sh prints them over the translation 34b902f0b0629d6e… (all of the seat's roots in one cut). By AI agents, Wed Nov 11 2026. No macro, syntax, notation, axiom, sorry.
-/
import Derived.Test.YtggbhdcgfnjogaaDoorChecked
import GoSem.PinnedTables
import GoSem.Claim
import GoSem.ClaimJoined
import GoSem.ClaimMapViews
import Derived.JoinedTies
import Derived.KernelRfl
namespace Go.Proofs.YtggbhdcgfnjogaaDoor
/- THE CELL 'sum', in the pinned program and in every row, IS THE sha256 OF THE DUMP (.gsa) THAT YtggbhdcgfnjogaaDoorProg.lean LOADS. Nothing in Lean hashes anything: it is a label: what it is worth is what the hold of that sum in a sandbox is worth. -/
noncomputable def Tryd.pinned : Pinned := { name := "ytggbhdcgfnjogaadoor", sum := "34b902f0b0629d6e5eddcf2b32dc3bb1880ff6d3837c7fdecb1ebe2ea24db8b3", checked := Tryd.checked }
namespace Rows
def none {H : Type} : Left H := { results := [], args := [] }

/- WHAT THE LISTED PACKAGE-LEVEL VARIABLES READ AS WHEN THE CALL BEGINS. Each datum BY PROGRAM (the guide's laid-datum.mjs) off the statement by which the dump's own 'gosem.cut.vars' lays the variable. In a bare row this is a premise. The card (YtggbhdcgfnjogaaDoorCards.lean) ties it to the program's text. -/
def laid_math_bits_deBruijn32tab {H : Type} : DataW H := .agg [.lit (.int .u8 0), .lit (.int .u8 1), .lit (.int .u8 28), .lit (.int .u8 2), .lit (.int .u8 29), .lit (.int .u8 14), .lit (.int .u8 24), .lit (.int .u8 3), .lit (.int .u8 30), .lit (.int .u8 22), .lit (.int .u8 20), .lit (.int .u8 15), .lit (.int .u8 25), .lit (.int .u8 17), .lit (.int .u8 4), .lit (.int .u8 8), .lit (.int .u8 31), .lit (.int .u8 27), .lit (.int .u8 13), .lit (.int .u8 23), .lit (.int .u8 21), .lit (.int .u8 19), .lit (.int .u8 16), .lit (.int .u8 7), .lit (.int .u8 26), .lit (.int .u8 12), .lit (.int .u8 18), .lit (.int .u8 6), .lit (.int .u8 11), .lit (.int .u8 5), .lit (.int .u8 10), .lit (.int .u8 9)]
def laid_math_bits_deBruijn64tab {H : Type} : DataW H := .agg [.lit (.int .u8 0), .lit (.int .u8 1), .lit (.int .u8 56), .lit (.int .u8 2), .lit (.int .u8 57), .lit (.int .u8 49), .lit (.int .u8 28), .lit (.int .u8 3), .lit (.int .u8 61), .lit (.int .u8 58), .lit (.int .u8 42), .lit (.int .u8 50), .lit (.int .u8 38), .lit (.int .u8 29), .lit (.int .u8 17), .lit (.int .u8 4), .lit (.int .u8 62), .lit (.int .u8 47), .lit (.int .u8 59), .lit (.int .u8 36), .lit (.int .u8 45), .lit (.int .u8 43), .lit (.int .u8 51), .lit (.int .u8 22), .lit (.int .u8 53), .lit (.int .u8 39), .lit (.int .u8 33), .lit (.int .u8 30), .lit (.int .u8 24), .lit (.int .u8 18), .lit (.int .u8 12), .lit (.int .u8 5), .lit (.int .u8 63), .lit (.int .u8 55), .lit (.int .u8 48), .lit (.int .u8 27), .lit (.int .u8 60), .lit (.int .u8 41), .lit (.int .u8 37), .lit (.int .u8 16), .lit (.int .u8 46), .lit (.int .u8 35), .lit (.int .u8 44), .lit (.int .u8 21), .lit (.int .u8 52), .lit (.int .u8 32), .lit (.int .u8 23), .lit (.int .u8 11), .lit (.int .u8 54), .lit (.int .u8 26), .lit (.int .u8 40), .lit (.int .u8 15), .lit (.int .u8 34), .lit (.int .u8 20), .lit (.int .u8 31), .lit (.int .u8 10), .lit (.int .u8 25), .lit (.int .u8 14), .lit (.int .u8 19), .lit (.int .u8 9), .lit (.int .u8 13), .lit (.int .u8 8), .lit (.int .u8 7), .lit (.int .u8 6)]
def laid_internal_strconv_uint64pow10 {H : Type} : DataW H := .agg [.lit (.int .u64 1), .lit (.int .u64 10), .lit (.int .u64 100), .lit (.int .u64 1000), .lit (.int .u64 10000), .lit (.int .u64 100000), .lit (.int .u64 1000000), .lit (.int .u64 10000000), .lit (.int .u64 100000000), .lit (.int .u64 1000000000), .lit (.int .u64 10000000000), .lit (.int .u64 100000000000), .lit (.int .u64 1000000000000), .lit (.int .u64 10000000000000), .lit (.int .u64 100000000000000), .lit (.int .u64 1000000000000000), .lit (.int .u64 10000000000000000), .lit (.int .u64 100000000000000000), .lit (.int .u64 1000000000000000000), .lit (.int .u64 10000000000000000000)]
def laid_unicode_utf8_acceptRanges {H : Type} : DataW H := .agg [.agg [.lit (.int .u8 128), .lit (.int .u8 191)], .agg [.lit (.int .u8 160), .lit (.int .u8 191)], .agg [.lit (.int .u8 128), .lit (.int .u8 159)], .agg [.lit (.int .u8 144), .lit (.int .u8 191)], .agg [.lit (.int .u8 128), .lit (.int .u8 143)], .agg [.lit (.int .u8 0), .lit (.int .u8 0)], .agg [.lit (.int .u8 0), .lit (.int .u8 0)], .agg [.lit (.int .u8 0), .lit (.int .u8 0)], .agg [.lit (.int .u8 0), .lit (.int .u8 0)], .agg [.lit (.int .u8 0), .lit (.int .u8 0)], .agg [.lit (.int .u8 0), .lit (.int .u8 0)], .agg [.lit (.int .u8 0), .lit (.int .u8 0)], .agg [.lit (.int .u8 0), .lit (.int .u8 0)], .agg [.lit (.int .u8 0), .lit (.int .u8 0)], .agg [.lit (.int .u8 0), .lit (.int .u8 0)], .agg [.lit (.int .u8 0), .lit (.int .u8 0)]]
def laid_strata_store_heads {H : Type} : DataW H := .agg [.lit (.string []), .lit (.string []), .lit (.string [80, 76, 65, 89]), .lit (.string [68, 82, 65, 73, 78]), .lit (.string [84, 73, 67, 75]), .lit (.string [70, 76, 85, 83, 72]), .lit (.string [83, 89, 78, 67]), .lit (.string [67, 72, 69, 67, 75, 80, 79, 73, 78, 84]), .lit (.string [77, 69, 82, 71, 69]), .lit (.string [67, 82, 65, 83, 72]), .lit (.string [82, 69, 83, 84, 65, 82, 84]), .lit (.string [67, 72, 69, 67, 75]), .lit (.string [67, 85, 84])]
/-- One of Go's own tables, pinned by name: the form's constant. -/
def laid_unicode_utf8_first : DataW Unit := Go.Pinned.utf8First
def laid_strata_bits_shapes {H : Type} : DataW H := .agg [.agg [.lit (.int .u64 1), .lit (.bool false)], .agg [.lit (.int .u64 2), .lit (.bool false)], .agg [.lit (.int .u64 0), .lit (.bool false)], .agg [.lit (.int .u64 1), .lit (.bool true)]]

/-- 'stratalaw17.StorePrints': WHATEVER THE INPUT: true; the input reads as it did. -/
def storePrintsSpec : ChangeSpec := { name := "storePrints", fn := fun _ => fun
  | [d] => { results := [.lit (.bool true)], args := [d] }
  | _ => none }
def storePrintsRow : OpenClaim := { program := "ytggbhdcgfnjogaadoor", sum := "34b902f0b0629d6e5eddcf2b32dc3bb1880ff6d3837c7fdecb1ebe2ea24db8b3", func := "strata/stratalaw17.StorePrints", spec := "storePrints", inPlace := ["internal/abi.NoEscape", "internal/bytealg.CountString", "internal/bytealg.IndexByteString", "internal/bytealg.IndexString", "internal/bytealg.MakeNoZero"], unfollowed := true, recurses := true, named := ["internal/strconv.uint64pow10", "math/bits.deBruijn32tab", "math/bits.deBruijn64tab", "strata/store.heads", "internal/bytealg.MaxLen", "unicode/utf8.first", "unicode/utf8.acceptRanges"], apart := false, laid := [("math/bits.deBruijn32tab", laid_math_bits_deBruijn32tab), ("math/bits.deBruijn64tab", laid_math_bits_deBruijn64tab), ("internal/strconv.uint64pow10", laid_internal_strconv_uint64pow10), ("unicode/utf8.acceptRanges", laid_unicode_utf8_acceptRanges), ("strata/store.heads", laid_strata_store_heads), ("unicode/utf8.first", laid_unicode_utf8_first)] }
def StorePrintsSaid : Prop := storePrintsRow.holds Tryd.pinned (OpenSpec.ofChange storePrintsSpec)

/-- ITS FALSE NEIGHBOUR: 'it returns false'. Refute it at one input. -/
def storePrintsWrong : ChangeSpec := { name := "storePrints", fn := fun _ => fun
  | [d] => { results := [.lit (.bool false)], args := [d] }
  | _ => none }
def StorePrintsWrongFalsely : Prop := storePrintsRow.holds Tryd.pinned (OpenSpec.ofChange storePrintsWrong)

/-- 'stratalaw16.PlanRows': WHATEVER THE INPUT: true; the input reads as it did. -/
def planRowsSpec : ChangeSpec := { name := "planRows", fn := fun _ => fun
  | [d1, d2] => { results := [.lit (.bool true)], args := [d1, d2] }
  | _ => none }
def planRowsRow : OpenClaim := { program := "ytggbhdcgfnjogaadoor", sum := "34b902f0b0629d6e5eddcf2b32dc3bb1880ff6d3837c7fdecb1ebe2ea24db8b3", func := "strata/stratalaw16.PlanRows", spec := "planRows", inPlace := ["internal/bytealg.CountString", "internal/bytealg.IndexByteString", "internal/bytealg.IndexString", "internal/abi.NoEscape", "internal/bytealg.MakeNoZero"], unfollowed := true, recurses := true, named := ["strata/bits.shapes", "internal/bytealg.MaxLen", "unicode/utf8.first", "unicode/utf8.acceptRanges"], apart := false, laid := [("unicode/utf8.acceptRanges", laid_unicode_utf8_acceptRanges), ("strata/bits.shapes", laid_strata_bits_shapes), ("unicode/utf8.first", laid_unicode_utf8_first)] }
def PlanRowsSaid : Prop := planRowsRow.holds Tryd.pinned (OpenSpec.ofChange planRowsSpec)

/-- ITS FALSE NEIGHBOUR: 'it returns false'. Refute it at one input. -/
def planRowsWrong : ChangeSpec := { name := "planRows", fn := fun _ => fun
  | [d1, d2] => { results := [.lit (.bool false)], args := [d1, d2] }
  | _ => none }
def PlanRowsWrongFalsely : Prop := planRowsRow.holds Tryd.pinned (OpenSpec.ofChange planRowsWrong)

/-- 'stratalaw16.PlanPairs': WHATEVER THE INPUT: true; the input reads as it did. -/
def planPairsSpec : ChangeSpec := { name := "planPairs", fn := fun _ => fun
  | [d1, d2] => { results := [.lit (.bool true)], args := [d1, d2] }
  | _ => none }
def planPairsRow : OpenClaim := { program := "ytggbhdcgfnjogaadoor", sum := "34b902f0b0629d6e5eddcf2b32dc3bb1880ff6d3837c7fdecb1ebe2ea24db8b3", func := "strata/stratalaw16.PlanPairs", spec := "planPairs", inPlace := ["internal/bytealg.CountString", "internal/bytealg.IndexByteString", "internal/bytealg.IndexString", "internal/abi.NoEscape", "internal/bytealg.MakeNoZero"], unfollowed := true, recurses := true, named := ["internal/bytealg.MaxLen", "unicode/utf8.first", "unicode/utf8.acceptRanges", "strata/bits.shapes"], apart := false, laid := [("unicode/utf8.acceptRanges", laid_unicode_utf8_acceptRanges), ("strata/bits.shapes", laid_strata_bits_shapes), ("unicode/utf8.first", laid_unicode_utf8_first)] }
def PlanPairsSaid : Prop := planPairsRow.holds Tryd.pinned (OpenSpec.ofChange planPairsSpec)

/-- ITS FALSE NEIGHBOUR: 'it returns false'. Refute it at one input. -/
def planPairsWrong : ChangeSpec := { name := "planPairs", fn := fun _ => fun
  | [d1, d2] => { results := [.lit (.bool false)], args := [d1, d2] }
  | _ => none }
def PlanPairsWrongFalsely : Prop := planPairsRow.holds Tryd.pinned (OpenSpec.ofChange planPairsWrong)

/-- 'stratalaw16.PlanTables': WHATEVER THE INPUT: true; the input reads as it did. -/
def planTablesSpec : ChangeSpec := { name := "planTables", fn := fun _ => fun
  | [d] => { results := [.lit (.bool true)], args := [d] }
  | _ => none }
def planTablesRow : OpenClaim := { program := "ytggbhdcgfnjogaadoor", sum := "34b902f0b0629d6e5eddcf2b32dc3bb1880ff6d3837c7fdecb1ebe2ea24db8b3", func := "strata/stratalaw16.PlanTables", spec := "planTables", inPlace := ["internal/bytealg.CountString", "internal/bytealg.IndexByteString", "internal/bytealg.IndexString", "internal/abi.NoEscape", "internal/bytealg.MakeNoZero"], unfollowed := true, recurses := true, named := ["strata/bits.shapes", "internal/bytealg.MaxLen", "unicode/utf8.first", "unicode/utf8.acceptRanges"], apart := false, laid := [("unicode/utf8.acceptRanges", laid_unicode_utf8_acceptRanges), ("strata/bits.shapes", laid_strata_bits_shapes), ("unicode/utf8.first", laid_unicode_utf8_first)] }
def PlanTablesSaid : Prop := planTablesRow.holds Tryd.pinned (OpenSpec.ofChange planTablesSpec)

/-- ITS FALSE NEIGHBOUR: 'it returns false'. Refute it at one input. -/
def planTablesWrong : ChangeSpec := { name := "planTables", fn := fun _ => fun
  | [d] => { results := [.lit (.bool false)], args := [d] }
  | _ => none }
def PlanTablesWrongFalsely : Prop := planTablesRow.holds Tryd.pinned (OpenSpec.ofChange planTablesWrong)

/- THE SECOND FORM. 'bulk': how many values and letters a reading holds, each counted each time it is reached (what is shared counts as often as it is met; a slice's spare places count too). A statement '..UptoSaid' is the law's where the arguments, and the package variables that the reading takes, are together of bulk at most 1048576: NARROWER than '..Said'. Prove '..Said' where nothing that the law and all that it calls make is longer than what came in: it says more and counts as full. Else prove '..UptoSaid'. A law counts once. -/
mutual
def uptoBulk {H : Type} : DataW H → Nat
  | .lit (.string bytes) => bytes.length + 1
  | .lit _ => 1
  | .nil => 1
  | .ptr d => uptoBulk d + 1
  | .slice elems spare => uptoBulkAll elems + uptoBulkAll spare + 1
  | .agg parts => uptoBulkAll parts + 1
  | .iface _ d => uptoBulk d + 1
  | .map entries => uptoBulkEntries entries + 1
  | .held _ => 1
def uptoBulkAll {H : Type} : List (DataW H) → Nat
  | [] => 0
  | d :: r => uptoBulk d + uptoBulkAll r
def uptoBulkEntries {H : Type} : List (Lit × DataW H) → Nat
  | [] => 0
  | x :: r => uptoBulkEntry x + uptoBulkEntries r
def uptoBulkEntry {H : Type} : Lit × DataW H → Nat
  | (.string bytes, d) => bytes.length + uptoBulk d + 1
  | (_, d) => uptoBulk d + 1
 end
def uptoSmall : (H : Type) → List (DataW H) → Bool := fun _ ds => decide (uptoBulkAll ds ≤ 1048576)
def OpenSpec.upto (s : _root_.Go.ChangeSpec) : _root_.Go.OpenSpec := { _root_.Go.OpenSpec.ofChange s with cond := some uptoSmall }

/-- 'stratalaw17.StorePrints', WHERE WHAT IT READS IS OF BULK AT MOST 1048576: true; the input reads as it did. -/
def storePrintsUptoRow : OpenClaim := { program := "ytggbhdcgfnjogaadoor", sum := "34b902f0b0629d6e5eddcf2b32dc3bb1880ff6d3837c7fdecb1ebe2ea24db8b3", func := "strata/stratalaw17.StorePrints", spec := "storePrints", inPlace := ["internal/abi.NoEscape", "internal/bytealg.CountString", "internal/bytealg.IndexByteString", "internal/bytealg.IndexString", "internal/bytealg.MakeNoZero"], unfollowed := true, recurses := true, named := ["internal/strconv.uint64pow10", "math/bits.deBruijn32tab", "math/bits.deBruijn64tab", "strata/store.heads", "internal/bytealg.MaxLen", "unicode/utf8.first", "unicode/utf8.acceptRanges"], apart := false, laid := [("math/bits.deBruijn32tab", laid_math_bits_deBruijn32tab), ("math/bits.deBruijn64tab", laid_math_bits_deBruijn64tab), ("internal/strconv.uint64pow10", laid_internal_strconv_uint64pow10), ("unicode/utf8.acceptRanges", laid_unicode_utf8_acceptRanges), ("strata/store.heads", laid_strata_store_heads), ("unicode/utf8.first", laid_unicode_utf8_first)], narrowed := true }
def StorePrintsUptoSaid : Prop := storePrintsUptoRow.holds Tryd.pinned (OpenSpec.upto storePrintsSpec)

/-- 'stratalaw16.PlanRows', WHERE WHAT IT READS IS OF BULK AT MOST 1048576: true; the input reads as it did. -/
def planRowsUptoRow : OpenClaim := { program := "ytggbhdcgfnjogaadoor", sum := "34b902f0b0629d6e5eddcf2b32dc3bb1880ff6d3837c7fdecb1ebe2ea24db8b3", func := "strata/stratalaw16.PlanRows", spec := "planRows", inPlace := ["internal/bytealg.CountString", "internal/bytealg.IndexByteString", "internal/bytealg.IndexString", "internal/abi.NoEscape", "internal/bytealg.MakeNoZero"], unfollowed := true, recurses := true, named := ["strata/bits.shapes", "internal/bytealg.MaxLen", "unicode/utf8.first", "unicode/utf8.acceptRanges"], apart := false, laid := [("unicode/utf8.acceptRanges", laid_unicode_utf8_acceptRanges), ("strata/bits.shapes", laid_strata_bits_shapes), ("unicode/utf8.first", laid_unicode_utf8_first)], narrowed := true }
def PlanRowsUptoSaid : Prop := planRowsUptoRow.holds Tryd.pinned (OpenSpec.upto planRowsSpec)

/-- 'stratalaw16.PlanPairs', WHERE WHAT IT READS IS OF BULK AT MOST 1048576: true; the input reads as it did. -/
def planPairsUptoRow : OpenClaim := { program := "ytggbhdcgfnjogaadoor", sum := "34b902f0b0629d6e5eddcf2b32dc3bb1880ff6d3837c7fdecb1ebe2ea24db8b3", func := "strata/stratalaw16.PlanPairs", spec := "planPairs", inPlace := ["internal/bytealg.CountString", "internal/bytealg.IndexByteString", "internal/bytealg.IndexString", "internal/abi.NoEscape", "internal/bytealg.MakeNoZero"], unfollowed := true, recurses := true, named := ["internal/bytealg.MaxLen", "unicode/utf8.first", "unicode/utf8.acceptRanges", "strata/bits.shapes"], apart := false, laid := [("unicode/utf8.acceptRanges", laid_unicode_utf8_acceptRanges), ("strata/bits.shapes", laid_strata_bits_shapes), ("unicode/utf8.first", laid_unicode_utf8_first)], narrowed := true }
def PlanPairsUptoSaid : Prop := planPairsUptoRow.holds Tryd.pinned (OpenSpec.upto planPairsSpec)

/-- 'stratalaw16.PlanTables', WHERE WHAT IT READS IS OF BULK AT MOST 1048576: true; the input reads as it did. -/
def planTablesUptoRow : OpenClaim := { program := "ytggbhdcgfnjogaadoor", sum := "34b902f0b0629d6e5eddcf2b32dc3bb1880ff6d3837c7fdecb1ebe2ea24db8b3", func := "strata/stratalaw16.PlanTables", spec := "planTables", inPlace := ["internal/bytealg.CountString", "internal/bytealg.IndexByteString", "internal/bytealg.IndexString", "internal/abi.NoEscape", "internal/bytealg.MakeNoZero"], unfollowed := true, recurses := true, named := ["strata/bits.shapes", "internal/bytealg.MaxLen", "unicode/utf8.first", "unicode/utf8.acceptRanges"], apart := false, laid := [("unicode/utf8.acceptRanges", laid_unicode_utf8_acceptRanges), ("strata/bits.shapes", laid_strata_bits_shapes), ("unicode/utf8.first", laid_unicode_utf8_first)], narrowed := true }
def PlanTablesUptoSaid : Prop := planTablesUptoRow.holds Tryd.pinned (OpenSpec.upto planTablesSpec)

end Rows
end Go.Proofs.YtggbhdcgfnjogaaDoor
