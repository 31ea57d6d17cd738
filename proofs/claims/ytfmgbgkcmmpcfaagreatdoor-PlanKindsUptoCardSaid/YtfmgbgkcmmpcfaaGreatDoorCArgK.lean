import Derived.Test.YtfmgbgkcmmpcfaaGreatDoorCLawK
import Derived.Test.YtfmgbgkcmmpcfaaGreatDoorRows
import Derived.Deep.Slices
import Derived.Deep.Fields
import Derived.ChangeSame
import Derived.Lib.SmallJoins
import Derived.OpenShut
import Derived.Lib.LaidTab
import Derived.LaidSub
import Derived.LaidHandle
import Derived.LaidLaws
import Derived.Shelf.Vars
set_option linter.unusedVariables false
set_option linter.unusedSimpArgs false
namespace Go.Proofs.YtfmgbgkcmmpcfaaGreatDoor.ArgK
open Go.Joins Go.ChangeShapes Go.WideShapes Go.Deep Go.RowKit Go.Proofs.YtfmgbgkcmmpcfaaGreatDoor.PTk Go.Proofs.YtfmgbgkcmmpcfaaGreatDoorW.PrintWords Go.Proofs.YtfmgbgkcmmpcfaaGreatDoorW.PrintLast Go.Proofs.YtfmgbgkcmmpcfaaGreatDoorW.PrintMore
section
variable {H : Type} {enc : TypeId × Value → H} {P : Program} {w : World} {base : Nat} {spare : Nat → Bool} {held : Bool}
theorem slice_C {α : Type} (d : Kd α) {t e : TypeId} (ht : P.underlying t = some (.slice e)) (hsz : P.cellsOf e = d.sz) (good : α → DataW H → Prop)
 (hel : ∀ (n : Nat) (cs : List Value) (y : DataW H × List MemPlace), DataW.trod enc P w base spare held n e cs = some y → ∃ x, d.K w x cs ∧ good x y.1)
 {fuel : Nat} {v : Value} {y : DataW H × List MemPlace} (h : DataW.trod enc P w base spare held fuel t [v] = some y) :
 ∃ (A : Option Addr) (xs : List α) (c : Nat), v = .slice A xs.length c ∧ xs.length ≤ c ∧ d.C w A xs.length xs ∧
  ((y.1 = .nil ∧ xs = []) ∨ ∃ D S, y.1 = .slice D S ∧ D.length = xs.length ∧ ∀ (j : Nat) x z, xs[j]? = some x → D[j]? = some z → good x z) := by
 rcases open_slice ht h with ⟨hc, hy⟩ | ⟨a, len, cap, m, n, D, Pl, hcs, hb, hl, hm, hmm, hx, hi⟩
 · injection hc with hc _
   subst hc
   exact ⟨none, [], 0, rfl, Nat.le_refl _, ⟨rfl, by simp, fun h => by simp at h⟩, Or.inl ⟨by rw [hy], rfl⟩⟩
 · injection hcs with hcs _
   have hml : len ≤ m := by rw [hmm]; split <;> omega
   have hall : ∀ i, i < len → ∃ x, (∃ c : List Value, c.length = d.sz ∧ d.K w x c ∧ ∀ j u, c[j]? = some u → w.cell? (a.add (i * d.sz + j)) = some u) ∧ good x (D i) := by
    intro i hil;obtain ⟨cs', h1, h2⟩ := hi i (by omega);obtain ⟨x, hk, hg⟩ := hel n cs' _ h2;obtain ⟨_, hlen, hcell⟩ := World.cells?_some h1;refine ⟨x, ⟨cs', by rw [hlen, hsz], hk, fun j u hj => ?_⟩, hg⟩
    have hjl : j < P.cellsOf e := by
     rw [← hlen]
     exact (List.getElem?_eq_some_iff.1 hj).1
    rw [← Go.Deep.add_add, ← hsz, hcell j hjl, hj]
   obtain ⟨f, hf⟩ : ∃ f : Nat → Option α, ∀ i, i < len → ∃ x, f i = some x ∧ (∃ c : List Value, c.length = d.sz ∧ d.K w x c ∧ ∀ j u, c[j]? = some u → w.cell? (a.add (i * d.sz + j)) = some u) ∧ good x (D i) := by
    classical
    refine ⟨fun i => if hil : i < len then some (Classical.choose (hall i hil)) else none, fun i hil => ⟨Classical.choose (hall i hil), by simp [hil], Classical.choose_spec (hall i hil)⟩⟩
   obtain ⟨xs, hxl, hxs⟩ : ∃ xs : List α, xs.length = len ∧ ∀ i (h : i < len), xs[i]? = f i := by
    have hb : ∀ k, k ≤ len → ∃ xs : List α, xs.length = k ∧ ∀ i, i < k → xs[i]? = f i := by
     intro k
     induction k with
     | zero => intro _; exact ⟨[], rfl, fun i h => by omega⟩
     | succ k ih =>
      intro hk;obtain ⟨xs, hl, hx⟩ := ih (by omega);obtain ⟨x, hfx, _⟩ := hf k (by omega);refine ⟨xs ++ [x], by simp [hl], fun i hik => ?_⟩
      by_cases e : i < k
      · rw [List.getElem?_append_left (by omega)]; exact hx i e
      · obtain rfl : i = k := by omega
        rw [List.getElem?_append_right (by omega), hl, Nat.sub_self, hfx]; rfl
    exact hb len (Nat.le_refl _)
   refine ⟨some a, xs, cap, by rw [hcs, hxl], by omega, ⟨rfl, by unfold maxLen at hm; omega, fun _ => ⟨a, rfl, fun j p hj => ?_⟩⟩, Or.inr ⟨_, _, by rw [hx], by simp [hxl], ?_⟩⟩
   · have hjl : j < len := by rw [← hxl]; exact (List.getElem?_eq_some_iff.1 hj).1
     obtain ⟨x, hfx, hc, _⟩ := hf j hjl;rw [hxs j hjl, hfx] at hj
     injection hj with hj
     subst hj
     exact hc
   · intro j x z hx hz
     have hjl : j < len := by rw [← hxl]; exact (List.getElem?_eq_some_iff.1 hx).1
     obtain ⟨x', hfx, _, hg⟩ := hf j hjl;rw [hxs j hjl, hfx] at hx
     injection hx with hx
     subst hx
     have e : z = D j := by
      rw [List.getElem?_map, List.getElem?_range (by omega)] at hz
      injection hz with hz
      exact hz.symm
     rw [e]
     exact hg
end
section
variable {w : World} {H : Type} {enc : TypeId × Value → H} {base : Nat} {spare : Nat → Bool} {held : Bool}
theorem c1_2 : Tryz.prog.cellsOf 2 = 1 := by kernel_rfl
theorem c1_3 : Tryz.prog.cellsOf 3 = 1 := by kernel_rfl
theorem c1_9 : Tryz.prog.cellsOf 9 = 1 := by kernel_rfl
theorem c1_u : Tryz.prog.cellsOf 204 = 1 := by kernel_rfl
theorem c4_86 : Tryz.prog.cellsOf 86 = 4 := by kernel_rfl
theorem fld {fs : Array Field} {m : Nat} {cs : List Value} {xs : List (DataW H × List MemPlace)} (hg : ∀ (i : Nat) (f : Field), fs[i]? = some f → DataW.trod enc Tryz.prog w base spare held m f.type ((cs.drop f.offset).take (Tryz.prog.cellsOf f.type)) = xs[i]?)
 (i t o k : Nat) (h : (fs[i]?).map (fun f => (f.type, f.offset)) = some (t, o)) (hk : Tryz.prog.cellsOf t = k) : DataW.trod enc Tryz.prog w base spare held m t ((cs.drop o).take k) = xs[i]? := by
 obtain ⟨f, hf, he⟩ := Option.map_eq_some_iff.1 h;obtain ⟨h1, h2⟩ := Prod.mk.inj he;have e := hg i f hf;rw [show f.type = t from h1, show f.offset = o from h2, hk] at e
 exact e
def Elems {α : Type} (good : α → DataW H → Prop) (xs : List α) (d : DataW H) : Prop := (d = .nil ∧ xs = []) ∨ ∃ D S, d = .slice D S ∧ D.length = xs.length ∧ ∀ (j : Nat) x z, xs[j]? = some x → D[j]? = some z → good x z
def inJ (i : Int) : Prop := -9223372036854775808 ≤ i ∧ i ≤ 9223372036854775807
theorem inJ_of {i : Int} (h : (Lit.int .i64 i).wf = true) : inJ i := by
 have := Go.bounds_i64 h
 exact ⟨this.1, this.2⟩
def goodNode (x : S86) (d : DataW H) : Prop := inJ x.f1 ∧ inJ x.f2 ∧ d = .agg [.lit (.int .i64 x.f0), .lit (.int .i64 x.f1), .lit (.int .i64 x.f2), .lit (.string x.f3.data.toList)]
set_option maxRecDepth 100000 in
theorem read_node (n : Nat) (cs : List Value) (y : DataW H × List MemPlace) (h : DataW.trod enc Tryz.prog w base spare held n 86 cs = some y) : ∃ x : S86, k86.K w x cs ∧ goodNode x y.1 := by
 obtain ⟨xs, m, _, hx, hcl, hlen, hg⟩ := DataW.trod_struct Tryz.underlying86 h;rw [c4_86] at hcl
 match cs, hcl with
 | [c0, c1, c2, c3], _ =>
  match xs, hlen with
  | [y0, y1, y2, y3], _ =>
   have h0 := fld hg 0 3 0 1 rfl c1_3;have h1 := fld hg 1 3 1 1 rfl c1_3;have h2 := fld hg 2 2 2 1 rfl c1_2;have h3 := fld hg 3 9 3 1 rfl c1_9;simp only [List.drop_zero, List.drop_succ_cons, List.take_succ_cons, List.take_zero, List.getElem?_cons_zero, List.getElem?_cons_succ] at h0 h1 h2 h3;obtain ⟨i, e0, ha, w0⟩ := DataW.trod_int Tryz.underlying3 h0;obtain ⟨j, e1, hb, w1⟩ := DataW.trod_int Tryz.underlying3 h1;obtain ⟨k, e2, hc, w2⟩ := DataW.trod_int Tryz.underlying2 h2;obtain ⟨s, e3, hd, _⟩ := DataW.trod_string Tryz.underlying9 h3;subst ha hb hc hd
   injection e0 with e0 _; injection e1 with e1 _; injection e2 with e2 _; injection e3 with e3 _
   subst e0 e1 e2 e3
   exact ⟨⟨i, j, k, s⟩, k86_mk w _, inJ_of w1, inJ_of w2, by rw [hx]; rfl⟩
theorem c1_46 : Tryz.prog.cellsOf 46 = 1 := by kernel_rfl
theorem c1_4 : Tryz.prog.cellsOf 4 = 1 := by kernel_rfl
theorem c3_93 : Tryz.prog.cellsOf 93 = 3 := by kernel_rfl
def goodCol (x : S93) (d : DataW H) : Prop := d = .agg [.lit (.string x.f0.data.toList), .lit (.int .i64 x.f1), .lit (.bool x.f2)]
set_option maxRecDepth 100000 in
theorem read_col (n : Nat) (cs : List Value) (y : DataW H × List MemPlace) (h : DataW.trod enc Tryz.prog w base spare held n 93 cs = some y) : ∃ x : S93, k93.K w x cs ∧ goodCol x y.1 := by
 obtain ⟨xs, m, _, hx, hcl, hlen, hg⟩ := DataW.trod_struct Tryz.underlying93 h;rw [c3_93] at hcl
 match cs, hcl with
 | [c0, c1, c2], _ =>
  match xs, hlen with
  | [y0, y1, y2], _ =>
   have h0 := fld hg 0 9 0 1 rfl c1_9;have h1 := fld hg 1 46 1 1 rfl c1_46;have h2 := fld hg 2 4 2 1 rfl c1_4;simp only [List.drop_zero, List.drop_succ_cons, List.take_succ_cons, List.take_zero, List.getElem?_cons_zero, List.getElem?_cons_succ] at h0 h1 h2;obtain ⟨s, e0, ha, _⟩ := DataW.trod_string Tryz.underlying9 h0;obtain ⟨i, e1, hb, _⟩ := DataW.trod_int Tryz.underlying46 h1;obtain ⟨b, e2, hc⟩ := DataW.trod_bool Tryz.underlying4 h2;subst ha hb hc
   injection e0 with e0 _; injection e1 with e1 _; injection e2 with e2 _
   subst e0 e1 e2
   exact ⟨⟨s, i, b⟩, k93_mk w _, by rw [hx]; rfl⟩
theorem slice_K {α : Type} (d : Kd α) {t e : TypeId} (ht : Tryz.prog.underlying t = some (.slice e)) (hsz : Tryz.prog.cellsOf e = d.sz) (good : α → DataW H → Prop)
 (hel : ∀ (n : Nat) (cs : List Value) (y : DataW H × List MemPlace), DataW.trod enc Tryz.prog w base spare held n e cs = some y → ∃ x, d.K w x cs ∧ good x y.1)
 {fuel : Nat} {v : Value} {y : DataW H × List MemPlace} (h : DataW.trod enc Tryz.prog w base spare held fuel t [v] = some y) :
 ∃ (A : Option Addr) (xs : List α) (c : Nat), v = .slice A xs.length c ∧ xs.length ≤ c ∧ d.C w A xs.length xs ∧ Elems good xs y.1 := slice_C d ht hsz good hel h
end
section
variable {H : Type}
theorem bulk_pos (x : DataW H) : 1 ≤ Rows.uptoBulk x := by
 cases x with
 | lit l => cases l <;> simp [Rows.uptoBulk]
 | nil => simp [Rows.uptoBulk]
 | ptr d => simp [Rows.uptoBulk]
 | slice elems spare => simp [Rows.uptoBulk]
 | agg parts => simp [Rows.uptoBulk]
 | iface t d => simp [Rows.uptoBulk]
 | map entries => simp [Rows.uptoBulk]
 | held h => simp [Rows.uptoBulk]
theorem size_of (s : ByteArray) : s.data.toList.length = s.size := by rw [Array.length_toList]; rfl
theorem nodes_fit : ∀ (xs : List S86) (D : List (DataW H)), D.length = xs.length → (∀ (j : Nat) x z, xs[j]? = some x → D[j]? = some z → goodNode x z) → szL xs + 2 * xs.length ≤ Rows.uptoBulkAll D ∧ ∀ x ∈ xs, inJ x.f1 ∧ inJ x.f2 := by
 intro xs
 induction xs with
 | nil => intro D _ _; exact ⟨by simp [szL], by simp⟩
 | cons x xs ih =>
  intro D hl hg
  cases D with
  | nil => simp at hl
  | cons z D =>
   obtain ⟨h1, h2, rfl⟩ := hg 0 x z rfl rfl;obtain ⟨h3, h4⟩ := ih D (by simpa using hl) (fun j a b ha hb => hg (j + 1) a b (by simpa using ha) (by simpa using hb));refine ⟨?_, fun y hy => ?_⟩
   · simp only [szL, List.length_cons, Rows.uptoBulkAll, Rows.uptoBulk, size_of]
     omega
   · rcases List.mem_cons.1 hy with rfl | hy
     · exact ⟨h1, h2⟩
     · exact h4 y hy
theorem sz_mem : ∀ (xs : List S86) (x : S86), x ∈ xs → x.f3.size ≤ szL xs
 | [], x, h => by simp at h
 | a :: xs, x, h => by
  rcases List.mem_cons.1 h with rfl | h
  · simp only [szL]; omega
  · have := sz_mem xs x h
    simp only [szL]; omega
theorem inv_of {xs : List S86} {d : DataW H} (h : Elems goodNode xs d) (hb : Rows.uptoBulk d ≤ 1048576) : okIn xs = true := by
 rcases h with ⟨rfl, rfl⟩ | ⟨D, S, rfl, hl, hg⟩
 · rfl
 · obtain ⟨h1, h2⟩ := nodes_fit xs D hl hg
   simp only [Rows.uptoBulk] at hb
   exact inv_small xs (by omega) (by omega) (fun x hx => by
    have h3 := sz_mem xs x hx;obtain ⟨h4, h5⟩ := h2 x hx
    exact ⟨h4.1, h4.2, h5.1, h5.2, by omega⟩)
theorem cols_few : ∀ (xs : List S93) (D : List (DataW H)), D.length = xs.length → xs.length ≤ Rows.uptoBulkAll D
 | [], D, _ => Nat.zero_le _
 | x :: xs, [], h => by simp at h
 | x :: xs, z :: D, h => by
  have := cols_few xs D (by simpa using h);have := bulk_pos z;simp only [List.length_cons, Rows.uptoBulkAll]
  omega
theorem cols_of {xs : List S93} {d : DataW H} (h : Elems goodCol xs d) (hb : Rows.uptoBulk d ≤ 1048576) : xs.length ≤ 1048576 := by
 rcases h with ⟨rfl, rfl⟩ | ⟨D, S, rfl, hl, hg⟩
 · simp
 · have := cols_few xs D hl
   simp only [Rows.uptoBulk] at hb
   omega
end
set_option maxRecDepth 100000 in
theorem mem_pow {W : World} {laid : List (String × DataW Unit)} (hf : (laid.filter fun x => x.2.handleName?.isNone).filter (fun x => x.1 == "internal/strconv.uint64pow10") = [("internal/strconv.uint64pow10", Rows.laid_internal_strconv_uint64pow10)])
 (h : laidMetH Tryz.prog laid W) : Lib.TabIs Tryz.prog W "internal/strconv.uint64pow10" .u64 Lib.pow10Tab := by
 have h1 := (laidMetH_iff.1 h).1.filter (fun x => x.1 == "internal/strconv.uint64pow10");rw [hf] at h1
 have e : Rows.laid_internal_strconv_uint64pow10 = Lib.tabData (H := Unit) .u64 Lib.pow10Tab := by rfl
 rw [e] at h1
 exact Lib.tabIs_of_head (g := 1) (t := 243) (e := 204) (n := 20) (by kernel_rfl) (by kernel_rfl) (by kernel_rfl) Tryz.underlying204 c1_u (by kernel_rfl) h1
theorem rt_ : (Tryz.prog.cutTypes.find? (·.1 == "internal/reflectlite.rtype")).map (·.2) = some 213 := by kernel_rfl
theorem oneRow : ((List.range 324).filter fun t => Tryz.prog.rowNamed t [101, 114, 114, 111, 114]) = [111] := by kernel_rfl
theorem ntypes : Tryz.prog.types.size = 324 := by kernel_rfl
theorem et_ : Tryz.prog.globalNamed "errors.errorType" = some 0 := by kernel_rfl
theorem handle_of {W : World} {laid : List (String × DataW Unit)} (hf : (laid.filter fun x => x.2.handleName?.isSome) = [("errors.errorType", Rows.laid_errors_errorType)])
 (h : laidMetH Tryz.prog laid W) : ErrT W := by
 unfold laidMetH at h;rw [hf] at h;obtain ⟨name, u, ty, e1, e2, e3, e4, e5⟩ := h.2 _ (List.mem_singleton.2 rfl);have en : name = [101, 114, 114, 111, 114] := (Option.some.inj e1).symm;subst en;obtain rfl := Option.some.inj (rt_.symm.trans e2)
 have hm : ty ∈ (List.range 324).filter fun t => Tryz.prog.rowNamed t [101, 114, 114, 111, 114] := List.mem_filter.2 ⟨List.mem_range.2 (by rw [← ntypes]; exact e3), e4⟩
 rw [oneRow] at hm;obtain rfl := List.mem_singleton.1 hm
 have hh : typeHandle Tryz.prog 111 = .pointer (some ⟨7, 111, none⟩) := by kernel_rfl
 rw [hh] at e5;unfold ErrT
 simpa using World.var?_cell et_ e5 0
theorem globals_of {W : World} {laid : List (String × DataW Unit)} (aa : (laid.filter fun x => x.2.handleName?.isNone).filter (fun x => x.1 == "internal/strconv.uint64pow10") = [("internal/strconv.uint64pow10", Rows.laid_internal_strconv_uint64pow10)])
 (ab : (laid.filter fun x => x.2.handleName?.isSome) = [("errors.errorType", Rows.laid_errors_errorType)])
 (h : laidMetH Tryz.prog laid W) (hs : W.ShapedOpen Tryz.prog) : GL W :=
 ⟨⟨mem_pow aa h, cell_of_shapedOpen_int (t := 3) (zero := #[.int .i64 0]) hs (of_decide_eq_true (by kernel_rfl)) (by kernel_rfl) rfl (by kernel_rfl) (by kernel_rfl) Tryz.underlying3⟩, handle_of ab h⟩
end Go.Proofs.YtfmgbgkcmmpcfaaGreatDoor.ArgK

