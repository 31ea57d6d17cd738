import Derived.Test.YtggbhdcgfnjogaaDoorTPPlx6
import Derived.Test.YtggbhdcgfnjogaaDoorRows
import Derived.Deep.Slices
import Derived.Deep.Fields
import Derived.ChangeSame
import Derived.Lib.SmallJoins
import Derived.OpenShut
import Derived.Lib.LaidTab
import Derived.LaidSub
import Derived.Shelf.Vars
set_option linter.unusedVariables false
namespace Go.Proofs.YtggbhdcgfnjogaaDoor.Arg
open Go.Joins Go.ChangeShapes Go.WideShapes Go.Deep Go.RowKit Go.Proofs.YtggbhdcgfnjogaaDoor.PPl Go.Proofs.YtggbhdcgfnjogaaDoorW.PrintWords Go.Proofs.YtggbhdcgfnjogaaDoorW.PrintLast Go.Proofs.YtggbhdcgfnjogaaDoorW.PrintMore
section
variable {H : Type} {enc : TypeId × Value → H} {P : Program} {w : World} {base : Nat} {spare : Nat → Bool} {held : Bool}
theorem slice_C {α : Type} (d : Kd α) {t e : TypeId} (ht : P.underlying t = some (.slice e)) (hsz : P.cellsOf e = d.sz) (good : α → DataW H → Prop)
 (hel : ∀ (n : Nat) (cs : List Value) (y : DataW H × List MemPlace), DataW.trod enc P w base spare held n e cs = some y → ∃ x, d.K w x cs ∧ good x y.1)
 {fuel : Nat} {v : Value} {y : DataW H × List MemPlace} (h : DataW.trod enc P w base spare held fuel t [v] = some y) :
 ∃ (A : Option Addr) (xs : List α) (c : Nat), v = .slice A xs.length c ∧ xs.length ≤ c ∧ d.C w A xs.length xs ∧
  ((y.1 = .nil ∧ xs = []) ∨ ∃ D S, y.1 = .slice D S ∧ D.length = xs.length ∧ ∀ x ∈ xs, ∃ z ∈ D, good x z) := by
 rcases open_slice ht h with ⟨hc, hy⟩ | ⟨a, len, cap, m, n, D, Pl, hcs, hb, hl, hm, hmm, hx, hi⟩
 · injection hc with hc _
   subst hc
   exact ⟨none, [], 0, rfl, Nat.le_refl _, ⟨rfl, by simp, fun h => by simp at h⟩, Or.inl ⟨by rw [hy], rfl⟩⟩
 · injection hcs with hcs _
   have hml : len ≤ m := by rw [hmm]; split <;> omega
   have hall : ∀ i, i < len → ∃ x, (∃ c : List Value, c.length = d.sz ∧ d.K w x c ∧ ∀ j u, c[j]? = some u → w.cell? (a.add (i * d.sz + j)) = some u) ∧ good x (D i) := by
    intro i hil
    obtain ⟨cs', h1, h2⟩ := hi i (by omega)
    obtain ⟨x, hk, hg⟩ := hel n cs' _ h2
    obtain ⟨_, hlen, hcell⟩ := World.cells?_some h1
    refine ⟨x, ⟨cs', by rw [hlen, hsz], hk, fun j u hj => ?_⟩, hg⟩
    have hjl : j < P.cellsOf e := by
     rw [← hlen]
     exact (List.getElem?_eq_some_iff.1 hj).1
    rw [← Go.Deep.add_add, ← hsz, hcell j hjl, hj]
   obtain ⟨f, hf⟩ : ∃ f : Nat → Option α, ∀ i, i < len → ∃ x, f i = some x ∧ (∃ c : List Value, c.length = d.sz ∧ d.K w x c ∧ ∀ j u, c[j]? = some u → w.cell? (a.add (i * d.sz + j)) = some u) ∧ good x (D i) := by
    classical
    refine ⟨fun i => if hil : i < len then some (Classical.choose (hall i hil)) else none, fun i hil => ⟨Classical.choose (hall i hil), by simp [hil], Classical.choose_spec (hall i hil)⟩⟩
   obtain ⟨xs, hxl, hxs⟩ : ∃ xs : List α, xs.length = len ∧ ∀ i (h : i < len), xs[i]? = f i := by
    have hb : ∀ k, k ≤ len → ∃ xs : List α, xs.length = k ∧ ∀ i, i < k → xs[i]? = f i := by
     intro k
     induction k with
     | zero => intro _; exact ⟨[], rfl, fun i h => by omega⟩
     | succ k ih =>
      intro hk
      obtain ⟨xs, hl, hx⟩ := ih (by omega)
      obtain ⟨x, hfx, _⟩ := hf k (by omega)
      refine ⟨xs ++ [x], by simp [hl], fun i hik => ?_⟩
      by_cases e : i < k
      · rw [List.getElem?_append_left (by omega)]; exact hx i e
      · obtain rfl : i = k := by omega
        rw [List.getElem?_append_right (by omega), hl, Nat.sub_self, hfx]; rfl
    exact hb len (Nat.le_refl _)
   refine ⟨some a, xs, cap, by rw [hcs, hxl], by omega, ⟨rfl, by unfold maxLen at hm; omega, fun _ => ⟨a, rfl, fun j p hj => ?_⟩⟩, Or.inr ⟨_, _, by rw [hx], by simp [hxl], ?_⟩⟩
   · have hjl : j < len := by rw [← hxl]; exact (List.getElem?_eq_some_iff.1 hj).1
     obtain ⟨x, hfx, hc, _⟩ := hf j hjl
     rw [hxs j hjl, hfx] at hj
     injection hj with hj
     subst hj
     exact hc
   · intro x hx
     obtain ⟨j, hjl, rfl⟩ := List.getElem_of_mem hx
     obtain ⟨x', hfx, _, hg⟩ := hf j (by omega)
     have e : xs[j] = x' := by
      have := hxs j (by omega)
      rw [List.getElem?_eq_getElem hjl, hfx] at this
      injection this
     rw [e]
     exact ⟨D j, List.mem_map.2 ⟨j, by simp; omega, rfl⟩, hg⟩
theorem cells3 {t : TypeId} {f0 f1 f2 : Field} (hs : P.underlying t = some (.struct #[f0, f1, f2])) (hone : oneCellFields P #[f0, f1, f2] = true) (hC : P.cellsOf t = 3) {n : Nat} {cs : List Value} {y : DataW H × List MemPlace}
 (h : DataW.trod enc P w base spare held n t cs = some y) : ∃ (c0 c1 c2 : Value) (y0 y1 y2 : DataW H × List MemPlace) (m : Nat), cs = [c0, c1, c2] ∧ y.1 = .agg [y0.1, y1.1, y2.1] ∧
  DataW.trod enc P w base spare held m f0.type [c0] = some y0 ∧ DataW.trod enc P w base spare held m f1.type [c1] = some y1 ∧ DataW.trod enc P w base spare held m f2.type [c2] = some y2 := by
 obtain ⟨xs, m, _, hx, hcl, hlen, hg⟩ := DataW.trod_struct hs h
 obtain ⟨o0, k0⟩ := hone_of hone 0 f0 rfl
 obtain ⟨o1, k1⟩ := hone_of hone 1 f1 rfl
 obtain ⟨o2, k2⟩ := hone_of hone 2 f2 rfl
 match cs, hcl.trans hC with
 | [c0, c1, c2], _ =>
  match xs, hlen with
  | [y0, y1, y2], _ =>
   exact ⟨c0, c1, c2, y0, y1, y2, m, rfl, by rw [hx]; rfl, by simpa [o0, k0] using hg 0 f0 rfl, by simpa [o1, k1] using hg 1 f1 rfl, by simpa [o2, k2] using hg 2 f2 rfl⟩
end
section
variable {P : Program} {w : World} {H : Type} {enc : TypeId × Value → H} {base : Nat} {spare : Nat → Bool} {held : Bool}
theorem cells2 {t : TypeId} {f0 f1 : Field} (hs : P.underlying t = some (.struct #[f0, f1])) (hone : oneCellFields P #[f0, f1] = true) (hC : P.cellsOf t = 2) {n : Nat} {cs : List Value} {y : DataW H × List MemPlace}
 (h : DataW.trod enc P w base spare held n t cs = some y) : ∃ (c0 c1 : Value) (y0 y1 : DataW H × List MemPlace) (m : Nat), cs = [c0, c1] ∧ y.1 = .agg [y0.1, y1.1] ∧
  DataW.trod enc P w base spare held m f0.type [c0] = some y0 ∧ DataW.trod enc P w base spare held m f1.type [c1] = some y1 := by
 obtain ⟨xs, m, _, hx, hcl, hlen, hg⟩ := DataW.trod_struct hs h
 obtain ⟨o0, k0⟩ := hone_of hone 0 f0 rfl
 obtain ⟨o1, k1⟩ := hone_of hone 1 f1 rfl
 match cs, hcl.trans hC with
 | [c0, c1], _ =>
  match xs, hlen with
  | [y0, y1], _ =>
   exact ⟨c0, c1, y0, y1, m, rfl, by rw [hx]; rfl, by simpa [o0, k0] using hg 0 f0 rfl, by simpa [o1, k1] using hg 1 f1 rfl⟩
end
section
variable {w : World} {H : Type} {enc : TypeId × Value → H} {base : Nat} {spare : Nat → Bool} {held : Bool}
def goodCol (x : S87) (d : DataW H) : Prop := d = .agg [.lit (.string x.f0.data.toList), .lit (.int .i64 x.f1), .lit (.bool x.f2)]
theorem read_col (n : Nat) (cs : List Value) (y : DataW H × List MemPlace) (h : DataW.trod enc Tryd.prog w base spare held n 87 cs = some y) : ∃ x : S87, k87.K w x cs ∧ goodCol x y.1 := by
 obtain ⟨c0, c1, c2, y0, y1, y2, m, rfl, hy, h0, h1, h2⟩ := cells3 Tryd.underlying87 (by kernel_rfl) (by kernel_rfl) h
 obtain ⟨s, e0, rfl, _⟩ := DataW.trod_string Tryd.underlying9 h0
 obtain ⟨i, e1, rfl, _⟩ := DataW.trod_int Tryd.underlying82 h1
 obtain ⟨b, e2, rfl⟩ := DataW.trod_bool Tryd.underlying4 h2
 injection e0 with e0 _; injection e1 with e1 _; injection e2 with e2 _
 subst e0 e1 e2
 exact ⟨⟨s, i, b⟩, k87_mk w _, hy⟩
def inR (i : Int) : Prop := -9223372036854775808 ≤ i ∧ i ≤ 9223372036854775807
theorem inR_of {i : Int} (h : (Lit.int .i64 i).wf = true) : inR i := by
 have := Go.bounds_i64 h
 exact ⟨this.1, this.2⟩
def goodInt (x : Int) (d : DataW H) : Prop := inR x ∧ d = .lit (.int .i64 x)
set_option maxRecDepth 100000 in
theorem read_int (n : Nat) (cs : List Value) (y : DataW H × List MemPlace) (h : DataW.trod enc Tryd.prog w base spare held n 3 cs = some y) : ∃ x : Int, (Kd.int .i64).K w x cs ∧ goodInt x y.1 := by
 obtain ⟨i, e0, rfl, w0⟩ := DataW.trod_int Tryd.underlying3 h
 exact ⟨i, e0, inR_of w0, rfl⟩
def Elems {α : Type} (good : α → DataW H → Prop) (xs : List α) (d : DataW H) : Prop := (d = .nil ∧ xs = []) ∨ ∃ D S, d = .slice D S ∧ D.length = xs.length ∧ ∀ x ∈ xs, ∃ z ∈ D, good x z
set_option maxRecDepth 100000 in
theorem read_table {v : Value} {d : DataW H} {p : List MemPlace} {r : Reach} {b0 : Nat} (hv : Value.okWide Tryd.prog w r b0 45 v) (h : DataW.Trod enc Tryd.prog w base spare held 45 v d p) :
 ∃ (nm : ByteArray) (num : Int) (A2 : Option Addr) (c2 : Nat) (l2 : List S87) (A3 : Option Addr) (c3 : Nat) (l3 : List Int) (d2 d3 : DataW H),
  v = .agg #[.string nm, .int .i64 num, .slice A2 l2.length c2, .slice A3 l3.length c3] ∧ Kd.C k87 w A2 l2.length l2 ∧ l2.length ≤ c2 ∧ Kd.C (Kd.int .i64) w A3 l3.length l3 ∧ l3.length ≤ c3 ∧ inR num ∧
  d = .agg [.lit (.string nm.data.toList), .lit (.int .i64 num), d2, d3] ∧ Elems goodCol l2 d2 ∧ Elems goodInt l3 d3 := by
 obtain ⟨v0, v1, v2, v3, y0, y1, y2, y3, n, rfl, rfl, _, h0, h1, h2, h3⟩ := open_agg4 Tryd.underlying45 (by kernel_rfl) (by kernel_rfl) hv h
 obtain ⟨s, e0, rfl, _⟩ := DataW.trod_string Tryd.underlying9 h0
 obtain ⟨i, e1, rfl, w1⟩ := DataW.trod_int Tryd.underlying2 h1
 injection e0 with e0 _; injection e1 with e1 _
 subst e0 e1
 obtain ⟨A2, l2, c2, rfl, hc2, hC2, g2⟩ := slice_C k87 Tryd.underlying43 (by kernel_rfl) goodCol read_col h2
 obtain ⟨A3, l3, c3, rfl, hc3, hC3, g3⟩ := slice_C (Kd.int .i64) Tryd.underlying30 (by kernel_rfl) goodInt read_int h3
 exact ⟨s, i, A2, c2, l2, A3, c3, l3, _, _, rfl, hC2, hc2, hC3, hc3, inR_of w1, rfl, g2, g3⟩
end
set_option maxRecDepth 100000 in
theorem mem_shape {W : World} {laid : List (String × DataW Unit)} (hf : (laid.filter fun x => x.2.handleName?.isNone).filter (fun x => x.1 == "strata/bits.shapes") = [("strata/bits.shapes", Rows.laid_strata_bits_shapes)])
 (h : laidMetH Tryd.prog laid W) : ∀ (j : Nat) (v : Value), shapeCells[j]? = some v → W.cell? ⟨1, j, none⟩ = some v := by
 have h1 := (laidMetH_iff.1 h).1.filter (fun x => x.1 == "strata/bits.shapes")
 rw [hf] at h1
 obtain ⟨ps, ⟨g', t', cs, fuel, p, q, hg', ht', hvar, hd, _, _⟩, _⟩ := h1
 have hg : Tryd.prog.globalNamed "strata/bits.shapes" = some 1 := by kernel_rfl
 have hty : (Tryd.prog.globals[1]?).map (·.type) = some 171 := by kernel_rfl
 obtain rfl := Option.some.inj (hg.symm.trans hg')
 obtain rfl := Option.some.inj (hty.symm.trans ht')
 obtain ⟨xs, m, _, hx, hlen, hxl, hel⟩ := DataW.trod_array (n := 4) (e := 170) (by kernel_rfl) hd
 have hC : Tryd.prog.cellsOf 170 = 2 := by kernel_rfl
 have hC2 : Tryd.prog.cellsOf 171 = 8 := by kernel_rfl
 rw [hC2] at hlen
 have hdat : xs.map (·.1) = [.agg [.lit (.int .u64 1), .lit (.bool false)], .agg [.lit (.int .u64 2), .lit (.bool false)], .agg [.lit (.int .u64 0), .lit (.bool false)], .agg [.lit (.int .u64 1), .lit (.bool true)]] := by
  have := congrArg Prod.fst hx
  simp only [Rows.laid_strata_bits_shapes] at this
  injection this with this
  exact this.symm
 have hpart : ∀ (i : Nat) (a : Int) (b : Bool), (xs.map (·.1))[i]? = some (.agg [.lit (.int .u64 a), .lit (.bool b)]) → cs[2 * i]? = some (.int .u64 a) ∧ cs[2 * i + 1]? = some (.bool b) := by
  intro i a b hi
  rw [List.getElem?_map, Option.map_eq_some_iff] at hi
  obtain ⟨y, hy, hya⟩ := hi
  have hil : i < 4 := by rw [← hxl]; exact (List.getElem?_eq_some_iff.1 hy).1
  have hh := hel i hil
  rw [hC, hy] at hh
  obtain ⟨c0, c1, y0, y1, m', hcs, hyy, h0, h1⟩ := cells2 Tryd.underlying170 (by kernel_rfl) hC hh
  obtain ⟨n, e0, rfl, _⟩ := DataW.trod_int Tryd.underlying27 h0
  obtain ⟨b', e1, rfl⟩ := DataW.trod_bool Tryd.underlying4 h1
  injection e0 with e0 _; injection e1 with e1 _
  subst e0 e1
  rw [hyy] at hya
  simp only [DataW.agg.injEq, List.cons.injEq, DataW.lit.injEq, Lit.int.injEq, Lit.bool.injEq, true_and, and_true] at hya
  obtain ⟨rfl, rfl⟩ := hya
  have g0 := congrArg (·[0]?) hcs
  have g1 := congrArg (·[1]?) hcs
  simp only [List.getElem?_take, List.getElem?_drop] at g0 g1
  rw [show i * 2 + 0 = 2 * i by omega] at g0
  rw [show i * 2 + 1 = 2 * i + 1 by omega] at g1
  exact ⟨by simpa using g0, by simpa using g1⟩
 rw [hdat] at hpart
 obtain ⟨a0, b0⟩ := hpart 0 _ _ rfl
 obtain ⟨a1, b1⟩ := hpart 1 _ _ rfl
 obtain ⟨a2, b2⟩ := hpart 2 _ _ rfl
 obtain ⟨a3, b3⟩ := hpart 3 _ _ rfl
 intro j v hj
 have hcell := World.var?_cell hg hvar j
 rw [hcell]
 have hjl : j < 8 := (List.getElem?_eq_some_iff.1 hj).1
 have : j = 0 ∨ j = 1 ∨ j = 2 ∨ j = 3 ∨ j = 4 ∨ j = 5 ∨ j = 6 ∨ j = 7 := by omega
 rcases this with rfl | rfl | rfl | rfl | rfl | rfl | rfl | rfl
 all_goals simp only [shapeCells, List.getElem?_cons_zero, List.getElem?_cons_succ, Option.some.injEq] at hj
 all_goals subst hj
 all_goals first | simpa using a0 | simpa using b0 | simpa using a1 | simpa using b1 | simpa using a2 | simpa using b2 | simpa using a3 | simpa using b3
theorem globals_of {W : World} {laid : List (String × DataW Unit)} (hf : (laid.filter fun x => x.2.handleName?.isNone).filter (fun x => x.1 == "strata/bits.shapes") = [("strata/bits.shapes", Rows.laid_strata_bits_shapes)])
 (h : laidMetH Tryd.prog laid W) (hs : W.ShapedOpen Tryd.prog) : GL W :=
 ⟨cell_of_shapedOpen_int (t := 3) (zero := #[.int .i64 0]) hs (of_decide_eq_true (by kernel_rfl)) (by kernel_rfl) rfl (by kernel_rfl) (by kernel_rfl) Tryd.underlying3, mem_shape hf h⟩
end Go.Proofs.YtggbhdcgfnjogaaDoor.Arg

