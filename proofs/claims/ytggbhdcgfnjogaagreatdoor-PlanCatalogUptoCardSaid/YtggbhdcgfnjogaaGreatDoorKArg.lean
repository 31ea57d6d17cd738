import Derived.Test.YtggbhdcgfnjogaaGreatDoorKPPcx20
import Derived.Test.YtggbhdcgfnjogaaGreatDoorRows
import Derived.Deep.Slices
import Derived.Deep.Fields
import Derived.ChangeSame
import Derived.Lib.SmallJoins
import Derived.OpenShut
import Derived.Lib.LaidTab
import Derived.LaidSub
import Derived.Shelf.Vars
set_option linter.unusedVariables false
namespace Go.Proofs.YtggbhdcgfnjogaaGreatDoor.Arg
open Go.Joins Go.ChangeShapes Go.WideShapes Go.Deep Go.RowKit Go.Proofs.YtggbhdcgfnjogaaGreatDoor.PPc Go.Proofs.YtggbhdcgfnjogaaGreatDoorW.PrintWords Go.Proofs.YtggbhdcgfnjogaaGreatDoorW.PrintLast Go.Proofs.YtggbhdcgfnjogaaGreatDoorW.PrintMore
section
variable {P : Program} {w : World} {H : Type} {enc : TypeId × Value → H} {base : Nat} {spare : Nat → Bool} {held : Bool}
theorem cells2 {t : TypeId} {f0 f1 : Field} (hs : P.underlying t = some (.struct #[f0, f1])) (hone : oneCellFields P #[f0, f1] = true) (hC : P.cellsOf t = 2) {n : Nat} {cs : List Value} {y : DataW H × List MemPlace}
 (h : DataW.trod enc P w base spare held n t cs = some y) : ∃ (c0 c1 : Value) (y0 y1 : DataW H × List MemPlace) (m : Nat), cs = [c0, c1] ∧ y.1 = .agg [y0.1, y1.1] ∧
  DataW.trod enc P w base spare held m f0.type [c0] = some y0 ∧ DataW.trod enc P w base spare held m f1.type [c1] = some y1 := by
 obtain ⟨xs, m, _, hx, hcl, hlen, hg⟩ := DataW.trod_struct hs h;obtain ⟨o0, k0⟩ := hone_of hone 0 f0 rfl;obtain ⟨o1, k1⟩ := hone_of hone 1 f1 rfl
 match cs, hcl.trans hC with
 | [c0, c1], _ =>
  match xs, hlen with
  | [y0, y1], _ =>
   exact ⟨c0, c1, y0, y1, m, rfl, by rw [hx]; rfl, by simpa [o0, k0] using hg 0 f0 rfl, by simpa [o1, k1] using hg 1 f1 rfl⟩
end
section
variable {w : World} {H : Type} {enc : TypeId × Value → H} {base : Nat} {spare : Nat → Bool} {held : Bool}
set_option maxRecDepth 100000 in
theorem read_pair {v : Value} {d : DataW H} {p : List MemPlace} {r : Reach} {b0 : Nat} (hv : Value.okWide Tryz.prog w r b0 23 v) (h : DataW.Trod enc Tryz.prog w base spare held 23 v d p) :
 ∃ (pk pd : ByteArray), v = .agg #[.string pk, .string pd] ∧ d = .agg [.lit (.string pk.data.toList), .lit (.string pd.data.toList)] := by
 obtain ⟨v0, v1, y0, y1, n, rfl, rfl, _, h0, h1⟩ := open_agg2 Tryz.underlying23 (by kernel_rfl) (by kernel_rfl) hv h;obtain ⟨s, e0, rfl, _⟩ := DataW.trod_string Tryz.underlying9 h0;obtain ⟨t, e1, rfl, _⟩ := DataW.trod_string Tryz.underlying9 h1
 injection e0 with e0 _; injection e1 with e1 _
 subst e0 e1
 exact ⟨s, t, rfl, rfl⟩
end
set_option maxRecDepth 100000 in
theorem mem_shape {W : World} {laid : List (String × DataW Unit)} (hf : (laid.filter fun x => x.2.handleName?.isNone).filter (fun x => x.1 == "strata/bits.shapes") = [("strata/bits.shapes", Rows.laid_strata_bits_shapes)])
 (h : laidMetH Tryz.prog laid W) : ∀ (j : Nat) (v : Value), shapeCells[j]? = some v → W.cell? ⟨0, j, none⟩ = some v := by
 have h1 := (laidMetH_iff.1 h).1.filter (fun x => x.1 == "strata/bits.shapes");rw [hf] at h1;obtain ⟨ps, ⟨g', t', cs, fuel, p, q, hg', ht', hvar, hd, _, _⟩, _⟩ := h1
 have hg : Tryz.prog.globalNamed "strata/bits.shapes" = some 0 := by kernel_rfl
 have hty : (Tryz.prog.globals[0]?).map (·.type) = some 120 := by kernel_rfl
 obtain rfl := Option.some.inj (hg.symm.trans hg');obtain rfl := Option.some.inj (hty.symm.trans ht');obtain ⟨xs, m, _, hx, hlen, hxl, hel⟩ := DataW.trod_array (n := 4) (e := 119) (by kernel_rfl) hd
 have hC : Tryz.prog.cellsOf 119 = 2 := by kernel_rfl
 have hC2 : Tryz.prog.cellsOf 120 = 8 := by kernel_rfl
 rw [hC2] at hlen
 have hdat : xs.map (·.1) = [.agg [.lit (.int .u64 1), .lit (.bool false)], .agg [.lit (.int .u64 2), .lit (.bool false)], .agg [.lit (.int .u64 0), .lit (.bool false)], .agg [.lit (.int .u64 1), .lit (.bool true)]] := by
  have := congrArg Prod.fst hx;simp only [Rows.laid_strata_bits_shapes] at this
  injection this with this
  exact this.symm
 have hpart : ∀ (i : Nat) (a : Int) (b : Bool), (xs.map (·.1))[i]? = some (.agg [.lit (.int .u64 a), .lit (.bool b)]) → cs[2 * i]? = some (.int .u64 a) ∧ cs[2 * i + 1]? = some (.bool b) := by
  intro i a b hi;rw [List.getElem?_map, Option.map_eq_some_iff] at hi;obtain ⟨y, hy, hya⟩ := hi
  have hil : i < 4 := by rw [← hxl]; exact (List.getElem?_eq_some_iff.1 hy).1
  have hh := hel i hil;rw [hC, hy] at hh;obtain ⟨c0, c1, y0, y1, m', hcs, hyy, h0, h1⟩ := cells2 Tryz.underlying119 (by kernel_rfl) hC hh;obtain ⟨n, e0, rfl, _⟩ := DataW.trod_int Tryz.underlying46 h0;obtain ⟨b', e1, rfl⟩ := DataW.trod_bool Tryz.underlying4 h1
  injection e0 with e0 _; injection e1 with e1 _
  subst e0 e1;rw [hyy] at hya;simp only [DataW.agg.injEq, List.cons.injEq, DataW.lit.injEq, Lit.int.injEq, Lit.bool.injEq, true_and, and_true] at hya;obtain ⟨rfl, rfl⟩ := hya;have g0 := congrArg (·[0]?) hcs;have g1 := congrArg (·[1]?) hcs;simp only [List.getElem?_take, List.getElem?_drop] at g0 g1;rw [show i * 2 + 0 = 2 * i by omega] at g0;rw [show i * 2 + 1 = 2 * i + 1 by omega] at g1
  exact ⟨by simpa using g0, by simpa using g1⟩
 rw [hdat] at hpart;obtain ⟨a0, b0⟩ := hpart 0 _ _ rfl;obtain ⟨a1, b1⟩ := hpart 1 _ _ rfl;obtain ⟨a2, b2⟩ := hpart 2 _ _ rfl;obtain ⟨a3, b3⟩ := hpart 3 _ _ rfl;intro j v hj;have hcell := World.var?_cell hg hvar j;rw [hcell];have hjl : j < 8 := (List.getElem?_eq_some_iff.1 hj).1
 have : j = 0 ∨ j = 1 ∨ j = 2 ∨ j = 3 ∨ j = 4 ∨ j = 5 ∨ j = 6 ∨ j = 7 := by omega
 rcases this with rfl | rfl | rfl | rfl | rfl | rfl | rfl | rfl
 all_goals simp only [shapeCells, List.getElem?_cons_zero, List.getElem?_cons_succ, Option.some.injEq] at hj
 all_goals subst hj
 all_goals first | simpa using a0 | simpa using b0 | simpa using a1 | simpa using b1 | simpa using a2 | simpa using b2 | simpa using a3 | simpa using b3
theorem globals_of {W : World} {laid : List (String × DataW Unit)} (hf : (laid.filter fun x => x.2.handleName?.isNone).filter (fun x => x.1 == "strata/bits.shapes") = [("strata/bits.shapes", Rows.laid_strata_bits_shapes)])
 (h : laidMetH Tryz.prog laid W) (hs : W.ShapedOpen Tryz.prog) : GL W :=
 ⟨cell_of_shapedOpen_int (t := 3) (zero := #[.int .i64 0]) hs (of_decide_eq_true (by kernel_rfl)) (by kernel_rfl) rfl (by kernel_rfl) (by kernel_rfl) Tryz.underlying3, mem_shape hf h⟩
end Go.Proofs.YtggbhdcgfnjogaaGreatDoor.Arg

