/- What an argument of replies reads as, told as a list; how long its print is; and the package variables that the row lists. Conditions: none. -/
import Derived.Test.YtggbhdcgfnjogaaDoorSpLaw
import Derived.Test.YtggbhdcgfnjogaaDoorRows
import Derived.Deep.Slices
import Derived.Deep.Fields
import Derived.ChangeSame
import Derived.Lib.SmallJoins
import Derived.OpenShut
import Derived.Lib.LaidTab
import Derived.LaidSub
import Derived.Shelf.Vars
set_option linter.unusedVariables false
set_option linter.unusedSimpArgs false
namespace Go.Proofs.YtggbhdcgfnjogaaDoor.ArgPrint
open Go.Joins Go.ChangeShapes Go.WideShapes Go.Deep Go.RowKit Go.Proofs.YtggbhdcgfnjogaaDoor.PSp Go.Proofs.YtggbhdcgfnjogaaDoorW.PrintWords Go.Proofs.YtggbhdcgfnjogaaDoorW.PrintLast Go.Proofs.YtggbhdcgfnjogaaDoorW.PrintMore
section
variable {H : Type} {enc : TypeId × Value → H} {P : Program} {w : World} {base : Nat} {spare : Nat → Bool} {held : Bool}
/-- A slice of elements of a kind: its elements as a list. -/
theorem slice_C {α : Type} (d : Kd α) {t e : TypeId} (ht : P.underlying t = some (.slice e)) (hsz : P.cellsOf e = d.sz) (good : α → DataW H → Prop)
    (hel : ∀ (n : Nat) (cs : List Value) (y : DataW H × List MemPlace), DataW.trod enc P w base spare held n e cs = some y → ∃ x, d.K w x cs ∧ good x y.1)
    {fuel : Nat} {v : Value} {y : DataW H × List MemPlace} (h : DataW.trod enc P w base spare held fuel t [v] = some y) :
    ∃ (A : Option Addr) (xs : List α) (c : Nat), v = .slice A xs.length c ∧ xs.length ≤ c ∧ d.C w A xs.length xs ∧
      ((y.1 = .nil ∧ xs = []) ∨ ∃ D S, y.1 = .slice D S ∧ D.length = xs.length ∧ ∀ (j : Nat) x z, xs[j]? = some x → D[j]? = some z → good x z) := by
  rcases open_slice ht h with ⟨hc, hy⟩ | ⟨a, len, cap, m, n, D, Pl, hcs, hb, hl, hm, hmm, hx, hi⟩
  · injection hc with hc _
    subst hc
    exact ⟨none, [], 0, rfl, Nat.le_refl _, ⟨rfl, by simp, fun h => by simp at h⟩, Or.inl ⟨by rw [hy], rfl⟩⟩
  · injection hcs with hcs _
    have hml : len ≤ m := by rw [hmm]; split <;> omega
    have hall : ∀ i, i < len → ∃ x, (∃ c : List Value, c.length = d.sz ∧ d.K w x c ∧ ∀ j u, c[j]? = some u → w.cell? (a.add (i * d.sz + j)) = some u) ∧ good x (D i) := by
      intro i hil
      obtain ⟨cs', h1, h2⟩ := hi i (by omega)
      obtain ⟨x, hk, hg⟩ := hel n cs' _ h2
      obtain ⟨_, hlen, hcell⟩ := World.cells?_some h1
      refine ⟨x, ⟨cs', by rw [hlen, hsz], hk, fun j u hj => ?_⟩, hg⟩
      have hjl : j < P.cellsOf e := by
        rw [← hlen]
        exact (List.getElem?_eq_some_iff.1 hj).1
      rw [← Go.Deep.add_add, ← hsz, hcell j hjl, hj]
    obtain ⟨f, hf⟩ : ∃ f : Nat → Option α, ∀ i, i < len → ∃ x, f i = some x ∧ (∃ c : List Value, c.length = d.sz ∧ d.K w x c ∧ ∀ j u, c[j]? = some u → w.cell? (a.add (i * d.sz + j)) = some u) ∧ good x (D i) := by
      classical
      refine ⟨fun i => if hil : i < len then some (Classical.choose (hall i hil)) else none, fun i hil => ⟨Classical.choose (hall i hil), by simp [hil], Classical.choose_spec (hall i hil)⟩⟩
    obtain ⟨xs, hxl, hxs⟩ : ∃ xs : List α, xs.length = len ∧ ∀ i (h : i < len), xs[i]? = f i := by
      have hb : ∀ k, k ≤ len → ∃ xs : List α, xs.length = k ∧ ∀ i, i < k → xs[i]? = f i := by
        intro k
        induction k with
        | zero => intro _; exact ⟨[], rfl, fun i h => by omega⟩
        | succ k ih =>
          intro hk
          obtain ⟨xs, hl, hx⟩ := ih (by omega)
          obtain ⟨x, hfx, _⟩ := hf k (by omega)
          refine ⟨xs ++ [x], by simp [hl], fun i hik => ?_⟩
          by_cases e : i < k
          · rw [List.getElem?_append_left (by omega)]; exact hx i e
          · obtain rfl : i = k := by omega
            rw [List.getElem?_append_right (by omega), hl, Nat.sub_self, hfx]; rfl
      exact hb len (Nat.le_refl _)
    refine ⟨some a, xs, cap, by rw [hcs, hxl], by omega, ⟨rfl, by unfold maxLen at hm; omega, fun _ => ⟨a, rfl, fun j p hj => ?_⟩⟩, Or.inr ⟨_, _, by rw [hx], by simp [hxl], ?_⟩⟩
    · have hjl : j < len := by rw [← hxl]; exact (List.getElem?_eq_some_iff.1 hj).1
      obtain ⟨x, hfx, hc, _⟩ := hf j hjl
      rw [hxs j hjl, hfx] at hj
      injection hj with hj
      subst hj
      exact hc
    · intro j x z hx hz
      have hjl : j < len := by rw [← hxl]; exact (List.getElem?_eq_some_iff.1 hx).1
      obtain ⟨x', hfx, _, hg⟩ := hf j hjl
      rw [hxs j hjl, hfx] at hx
      injection hx with hx
      subst hx
      have e : z = D j := by
        rw [List.getElem?_map, List.getElem?_range (by omega)] at hz
        injection hz with hz
        exact hz.symm
      rw [e]
      exact hg
end
section
variable {w : World} {H : Type} {enc : TypeId × Value → H} {base : Nat} {spare : Nat → Bool} {held : Bool}
theorem c1_2 : Tryd.prog.cellsOf 2 = 1 := by kernel_rfl
theorem c1_3 : Tryd.prog.cellsOf 3 = 1 := by kernel_rfl
theorem c1_9 : Tryd.prog.cellsOf 9 = 1 := by kernel_rfl
theorem c1_24 : Tryd.prog.cellsOf 24 = 1 := by kernel_rfl
theorem c1_25 : Tryd.prog.cellsOf 25 = 1 := by kernel_rfl
theorem c1_26 : Tryd.prog.cellsOf 26 = 1 := by kernel_rfl
theorem c1_27 : Tryd.prog.cellsOf 27 = 1 := by kernel_rfl
theorem c1_30 : Tryd.prog.cellsOf 30 = 1 := by kernel_rfl
theorem c1_38 : Tryd.prog.cellsOf 38 = 1 := by kernel_rfl
theorem c1_82 : Tryd.prog.cellsOf 82 = 1 := by kernel_rfl
theorem c3_84 : Tryd.prog.cellsOf 84 = 3 := by kernel_rfl
theorem c6_29 : Tryd.prog.cellsOf 29 = 6 := by kernel_rfl
theorem c11_32 : Tryd.prog.cellsOf 32 = 11 := by kernel_rfl
theorem fld {fs : Array Field} {m : Nat} {cs : List Value} {xs : List (DataW H × List MemPlace)} (hg : ∀ (i : Nat) (f : Field), fs[i]? = some f → DataW.trod enc Tryd.prog w base spare held m f.type ((cs.drop f.offset).take (Tryd.prog.cellsOf f.type)) = xs[i]?)
    (i t o k : Nat) (h : (fs[i]?).map (fun f => (f.type, f.offset)) = some (t, o)) (hk : Tryd.prog.cellsOf t = k) : DataW.trod enc Tryd.prog w base spare held m t ((cs.drop o).take k) = xs[i]? := by
  obtain ⟨f, hf, he⟩ := Option.map_eq_some_iff.1 h
  obtain ⟨h1, h2⟩ := Prod.mk.inj he
  have e := hg i f hf
  rw [show f.type = t from h1, show f.offset = o from h2, hk] at e
  exact e
/-- What a slice's datum says of its list. -/
def Elems {α : Type} (good : α → DataW H → Prop) (xs : List α) (d : DataW H) : Prop := (d = .nil ∧ xs = []) ∨ ∃ D S, d = .slice D S ∧ D.length = xs.length ∧ ∀ (j : Nat) x z, xs[j]? = some x → D[j]? = some z → good x z
theorem inI_of {i : Int} (h : (Lit.int .i64 i).wf = true) : inI i := by
  have := Go.bounds_i64 h
  exact ⟨this.1, this.2⟩
def goodVal (x : S84) (d : DataW H) : Prop := inI x.f1 ∧ d = .agg [.lit (.int .i64 x.f0), .lit (.int .i64 x.f1), .lit (.string x.f2.data.toList)]
set_option maxRecDepth 100000 in
theorem read_val (n : Nat) (cs : List Value) (y : DataW H × List MemPlace) (h : DataW.trod enc Tryd.prog w base spare held n 84 cs = some y) : ∃ x : S84, k84.K w x cs ∧ goodVal x y.1 := by
  obtain ⟨xs, m, _, hx, hcl, hlen, hg⟩ := DataW.trod_struct Tryd.underlying84 h
  rw [c3_84] at hcl
  match cs, hcl with
  | [c0, c1, c2], _ =>
    match xs, hlen with
    | [y0, y1, y2], _ =>
      have h0 := fld hg 0 82 0 1 rfl c1_82
      have h1 := fld hg 1 2 1 1 rfl c1_2
      have h2 := fld hg 2 9 2 1 rfl c1_9
      simp only [List.drop_zero, List.drop_succ_cons, List.take_succ_cons, List.take_zero, List.getElem?_cons_zero, List.getElem?_cons_succ] at h0 h1 h2
      obtain ⟨i, e0, ha, _⟩ := DataW.trod_int Tryd.underlying82 h0
      obtain ⟨j, e1, hb, w1⟩ := DataW.trod_int Tryd.underlying2 h1
      obtain ⟨s, e2, hc, _⟩ := DataW.trod_string Tryd.underlying9 h2
      subst ha hb hc
      injection e0 with e0 _; injection e1 with e1 _; injection e2 with e2 _
      subst e0 e1 e2
      exact ⟨⟨i, j, s⟩, k84_mk w _, inI_of w1, by rw [hx]; rfl⟩
def goodInt (x : Int) (d : DataW H) : Prop := inI x ∧ d = .lit (.int .i64 x)
set_option maxRecDepth 100000 in
theorem read_int (n : Nat) (cs : List Value) (y : DataW H × List MemPlace) (h : DataW.trod enc Tryd.prog w base spare held n 3 cs = some y) : ∃ x : Int, (Kd.int .i64).K w x cs ∧ goodInt x y.1 := by
  obtain ⟨i, e0, rfl, w0⟩ := DataW.trod_int Tryd.underlying3 h
  exact ⟨i, e0, inI_of w0, rfl⟩
def goodStr (x : ByteArray) (d : DataW H) : Prop := d = .lit (.string x.data.toList)
set_option maxRecDepth 100000 in
theorem read_str (n : Nat) (cs : List Value) (y : DataW H × List MemPlace) (h : DataW.trod enc Tryd.prog w base spare held n 9 cs = some y) : ∃ x : ByteArray, Kd.string.K w x cs ∧ goodStr x y.1 := by
  obtain ⟨s, e0, rfl, _⟩ := DataW.trod_string Tryd.underlying9 h
  exact ⟨s, e0, rfl⟩
theorem slice_K {α : Type} (d : Kd α) {t e : TypeId} (ht : Tryd.prog.underlying t = some (.slice e)) (hsz : Tryd.prog.cellsOf e = d.sz) (good : α → DataW H → Prop)
    (hel : ∀ (n : Nat) (cs : List Value) (y : DataW H × List MemPlace), DataW.trod enc Tryd.prog w base spare held n e cs = some y → ∃ x, d.K w x cs ∧ good x y.1)
    {fuel : Nat} {v : Value} {y : DataW H × List MemPlace} (h : DataW.trod enc Tryd.prog w base spare held fuel t [v] = some y) :
    ∃ (A : Option Addr) (xs : List α) (c : Nat), v = .slice A xs.length c ∧ xs.length ≤ c ∧ d.C w A xs.length xs ∧ Elems good xs y.1 := slice_C d ht hsz good hel h
def goodRow (x : List S84) (d : DataW H) : Prop := Elems goodVal x d
set_option maxRecDepth 100000 in
theorem read_row (n : Nat) (cs : List Value) (y : DataW H × List MemPlace) (h : DataW.trod enc Tryd.prog w base spare held n 38 cs = some y) : ∃ x : List S84, (Kd.slice 84 k84).K w x cs ∧ goodRow x y.1 := by
  obtain ⟨v, rfl⟩ : ∃ v, cs = [v] := by
    rcases open_slice Tryd.underlying38 h with ⟨hc, _⟩ | ⟨a, len, cap, m, n, D, Pl, hcs, _⟩
    · exact ⟨_, hc⟩
    · exact ⟨_, hcs⟩
  obtain ⟨A, xs, c, rfl, hc, hC, hg⟩ := slice_K k84 Tryd.underlying38 c3_84 goodVal read_val h
  exact ⟨xs, ⟨A, c, rfl, hc, hC⟩, hg⟩
def goodRep (x : S32) (d : DataW H) : Prop := inI x.f0 ∧ inI x.f2 ∧ inI x.f3 ∧ 0 ≤ x.f4.f4 ∧ x.f4.f4.toNat < 18446744073709551616 ∧ inI x.f4.f3 ∧
  ∃ (a b c e f g h k : Int) (dn dr dm : DataW H), d = .agg [.lit (.int .i64 a), .lit (.int .i64 b), .lit (.int .i64 c), .lit (.int .i64 e), .agg [.lit (.int .i64 f), dn, dr, .lit (.int .i64 g), .lit (.int .u64 h), .lit (.int .i64 k)], dm] ∧
    Elems goodStr x.f4.f1 dn ∧ Elems goodRow x.f4.f2 dr ∧ Elems goodInt x.f5 dm
set_option maxRecDepth 100000 in
theorem read_rep (n : Nat) (cs : List Value) (y : DataW H × List MemPlace) (h : DataW.trod enc Tryd.prog w base spare held n 32 cs = some y) : ∃ x : S32, k32.K w x cs ∧ goodRep x y.1 := by
  obtain ⟨xs, m, _, hx, hcl, hlen, hg⟩ := DataW.trod_struct Tryd.underlying32 h
  rw [c11_32] at hcl
  match cs, hcl with
  | [c0, c1, c2, c3, c4, c5, c6, c7, c8, c9, c10], _ =>
    match xs, hlen with
    | [y0, y1, y2, y3, y4, y5], _ =>
      have h0 := fld hg 0 3 0 1 rfl c1_3
      have h1 := fld hg 1 3 1 1 rfl c1_3
      have h2 := fld hg 2 3 2 1 rfl c1_3
      have h3 := fld hg 3 24 3 1 rfl c1_24
      have h4 := fld hg 4 29 4 6 rfl c6_29
      have h5 := fld hg 5 30 10 1 rfl c1_30
      simp only [List.drop_zero, List.drop_succ_cons, List.take_succ_cons, List.take_zero, List.getElem?_cons_zero, List.getElem?_cons_succ] at h0 h1 h2 h3 h4 h5
      obtain ⟨zs, m2, _, hz, _, hzl, hk⟩ := DataW.trod_struct Tryd.underlying29 h4
      match zs, hzl with
      | [z0, z1, z2, z3, z4, z5], _ =>
        have k0 := fld hk 0 24 0 1 rfl c1_24
        have k1 := fld hk 1 25 1 1 rfl c1_25
        have k2 := fld hk 2 26 2 1 rfl c1_26
        have k3 := fld hk 3 3 3 1 rfl c1_3
        have k4 := fld hk 4 27 4 1 rfl c1_27
        have k5 := fld hk 5 3 5 1 rfl c1_3
        simp only [List.drop_zero, List.drop_succ_cons, List.take_succ_cons, List.take_zero, List.getElem?_cons_zero, List.getElem?_cons_succ] at k0 k1 k2 k3 k4 k5
        obtain ⟨a, ea, ra, wa⟩ := DataW.trod_int Tryd.underlying3 h0
        obtain ⟨b, eb, rb, wb⟩ := DataW.trod_int Tryd.underlying3 h1
        obtain ⟨c, ec, rc, wc⟩ := DataW.trod_int Tryd.underlying3 h2
        obtain ⟨e, ee, re, we⟩ := DataW.trod_int Tryd.underlying24 h3
        obtain ⟨f, ef, rf, wf⟩ := DataW.trod_int Tryd.underlying24 k0
        obtain ⟨g, eg, rg, wg⟩ := DataW.trod_int Tryd.underlying3 k3
        obtain ⟨u, eu, ru, wu⟩ := DataW.trod_int Tryd.underlying27 k4
        obtain ⟨k, ek, rk, wk⟩ := DataW.trod_int Tryd.underlying3 k5
        obtain ⟨A5, ns, d5, e5, l5, C5, g5⟩ := slice_K Kd.string Tryd.underlying25 c1_9 goodStr read_str k1
        obtain ⟨A6, rws, d6, e6, l6, C6, g6⟩ := slice_K (Kd.slice 84 k84) Tryd.underlying26 c1_38 goodRow read_row k2
        obtain ⟨A10, nums, d10, e10, l10, C10, g10⟩ := slice_K (Kd.int .i64) Tryd.underlying30 c1_3 goodInt read_int h5
        injection ea with ea _; injection eb with eb _; injection ec with ec _; injection ee with ee _; injection ef with ef _; injection eg with eg _; injection eu with eu _; injection ek with ek _
        subst ea eb ec ee ef eg eu ek e5 e6 e10
        have hu : 0 ≤ u ∧ u < 18446744073709551616 := by
          have := Go.bounds_u64 wu
          omega
        refine ⟨⟨a, b, c, e, ⟨f, ns, rws, g, u, k⟩, nums⟩, k32_mk w ⟨a, b, c, e, ⟨f, ns, rws, g, u, k⟩, nums⟩ l5 C5 l6 C6 l10 C10, inI_of wa, inI_of wc, inI_of we, hu.1, by show u.toNat < _; omega, inI_of wg, a, b, c, e, f, g, u, k, z1.1, z2.1, y5.1, ?_, g5, g6, g10⟩
        rw [hx]
        subst ra rb rc re rf rg ru rk
        have hy4 : y4.1 = .agg [.lit (.int .i64 f), z1.1, z2.1, .lit (.int .i64 g), .lit (.int .u64 u), .lit (.int .i64 k)] := by rw [hz]; rfl
        simp only [List.map_cons, List.map_nil, hy4]
end
/-! How long the print is. -/
section
variable {H : Type}
theorem bulk_pos (x : DataW H) : 1 ≤ Rows.uptoBulk x := by
  cases x with
  | lit l => cases l <;> simp [Rows.uptoBulk]
  | nil => simp [Rows.uptoBulk]
  | ptr d => simp [Rows.uptoBulk]
  | slice elems spare => simp [Rows.uptoBulk]
  | agg parts => simp [Rows.uptoBulk]
  | iface t d => simp [Rows.uptoBulk]
  | map entries => simp [Rows.uptoBulk]
  | held h => simp [Rows.uptoBulk]
theorem sum_le {α : Type} (good : α → DataW H → Prop) (f : α → Nat) (hf : ∀ x z, good x z → f x ≤ 23 * Rows.uptoBulk z) : ∀ (xs : List α) (D : List (DataW H)), D.length = xs.length → (∀ (j : Nat) x z, xs[j]? = some x → D[j]? = some z → good x z) → (xs.map f).sum ≤ 23 * Rows.uptoBulkAll D := by
  intro xs
  induction xs with
  | nil => intro D _ _; simp
  | cons x xs ih =>
    intro D hl hg
    cases D with
    | nil => simp at hl
    | cons z D =>
      have h1 := hf x z (hg 0 x z rfl rfl)
      have h2 := ih D (by simpa using hl) (fun j a b ha hb => hg (j + 1) a b (by simpa using ha) (by simpa using hb))
      simp only [List.map_cons, List.sum_cons, Rows.uptoBulkAll]
      omega
theorem elems_le {α : Type} (good : α → DataW H → Prop) (f : α → Nat) (hf : ∀ x z, good x z → f x ≤ 23 * Rows.uptoBulk z) {xs : List α} {d : DataW H} (h : Elems good xs d) : (xs.map f).sum + 23 ≤ 23 * Rows.uptoBulk d := by
  rcases h with ⟨rfl, rfl⟩ | ⟨D, S, rfl, hl, hg⟩
  · simp [Rows.uptoBulk]
  · have := sum_le good f hf xs D hl hg
    simp only [Rows.uptoBulk]
    omega
theorem len_le {α : Type} (good : α → DataW H → Prop) {xs : List α} {d : DataW H} (h : Elems good xs d) : xs.length ≤ Rows.uptoBulk d := by
  rcases h with ⟨rfl, rfl⟩ | ⟨D, S, rfl, hl, hg⟩
  · simp
  · have hlen : ∀ l : List (DataW H), l.length ≤ Rows.uptoBulkAll l := by
      intro l
      induction l with
      | nil => simp [Rows.uptoBulkAll]
      | cons x r ih =>
        have := bulk_pos x
        simp only [Rows.uptoBulkAll, List.length_cons]; omega
    have := hlen D
    simp only [Rows.uptoBulk]
    omega
theorem part_le {d : DataW H} {l : List (DataW H)} (h : d ∈ l) : Rows.uptoBulk d ≤ Rows.uptoBulkAll l := by
  induction l with
  | nil => cases h
  | cons x r ih =>
    simp only [Rows.uptoBulkAll]
    cases List.mem_cons.1 h with
    | inl e => subst e; omega
    | inr e => have := ih e; omega
theorem elem_of {α : Type} {good : α → DataW H → Prop} {xs : List α} {d : DataW H} (h : Elems good xs d) : ∀ x ∈ xs, ∃ z, good x z ∧ Rows.uptoBulk z ≤ Rows.uptoBulk d := by
  intro x hx
  rcases h with ⟨rfl, rfl⟩ | ⟨D, S, rfl, hl, hg⟩
  · simp at hx
  · obtain ⟨j, hj, rfl⟩ := List.getElem_of_mem hx
    have hjD : j < D.length := by omega
    refine ⟨D[j], hg j _ _ (List.getElem?_eq_getElem hj) (List.getElem?_eq_getElem hjD), ?_⟩
    have := part_le (List.getElem_mem hjD)
    simp only [Rows.uptoBulk]
    omega
theorem size_of (s : ByteArray) : s.data.toList.length = s.size := by rw [Array.length_toList]; rfl
theorem join_len {α : Type} (f : α → List UInt8) (l : List α) : (joinL f l).length ≤ (l.map (fun x => (f x).length + 2)).sum := by
  cases l with
  | nil => simp [joinL]
  | cons x r =>
    simp only [joinL, List.length_append, List.length_flatMap, List.map_cons, List.sum_cons, List.length_cons]
    have : (r.map fun y => (f y).length + 1 + 1).sum = (r.map fun x => (f x).length + 2).sum := by congr 1
    omega
theorem line_len {α : Type} (lead : List UInt8) (f : α → List UInt8) (l : List α) : (lineL lead f l).length ≤ lead.length + 1 + (l.map (fun x => (f x).length + 2)).sum := by
  have := join_len f l
  simp only [lineL, List.length_append, List.length_singleton]
  omega
theorem val_len (x : S84) (d : DataW H) (h : goodVal x d) (hs : x.f2.size ≤ 1000000000) : (valueL x).length + 2 ≤ 23 * Rows.uptoBulk d := by
  obtain ⟨h1, rfl⟩ := h
  have := valueL_len x ⟨h1, hs⟩
  simp only [Rows.uptoBulk, Rows.uptoBulkAll, size_of]
  omega
theorem val_size (x : S84) (d : DataW H) (h : goodVal x d) : x.f2.size ≤ Rows.uptoBulk d := by
  obtain ⟨h1, rfl⟩ := h
  simp only [Rows.uptoBulk, Rows.uptoBulkAll, size_of]
  omega
/-- What is good and small. -/
def goodValS (x : S84) (d : DataW H) : Prop := goodVal x d ∧ Rows.uptoBulk d ≤ 1048576
theorem elems_small {α : Type} {good : α → DataW H → Prop} {xs : List α} {d : DataW H} (h : Elems good xs d) (hb : Rows.uptoBulk d ≤ 1048576) : Elems (fun x z => good x z ∧ Rows.uptoBulk z ≤ 1048576) xs d := by
  rcases h with ⟨rfl, rfl⟩ | ⟨D, S, rfl, hl, hg⟩
  · exact .inl ⟨rfl, rfl⟩
  · refine .inr ⟨D, S, rfl, hl, fun j x z hx hz => ⟨hg j x z hx hz, ?_⟩⟩
    have := part_le (List.mem_of_getElem? hz)
    simp only [Rows.uptoBulk] at hb
    omega
theorem row_len (x : List S84) (d : DataW H) (h : goodRow x d) (hb : Rows.uptoBulk d ≤ 1048576) : (lineL [32, 32] valueL x).length ≤ 23 * Rows.uptoBulk d := by
  have h1 := elems_le _ (fun v : S84 => (valueL v).length + 2) (fun v z hv => val_len v z hv.1 (by have := val_size v z hv.1; omega)) (elems_small h hb)
  have h2 := line_len [32, 32] valueL x
  simp only [List.length_cons, List.length_nil] at h2
  omega
theorem name_len (x : ByteArray) (d : DataW H) (h : goodStr x d) : (quoteL x.data.toList).length + 2 ≤ 23 * Rows.uptoBulk d := by
  unfold goodStr at h
  subst h
  have := quoteL_len x
  simp only [Rows.uptoBulk, size_of]
  omega
theorem num_len (x : Int) (d : DataW H) (h : goodInt x d) : (Lib.itoa x).length + 1 ≤ 23 * Rows.uptoBulk d := by
  obtain ⟨h1, rfl⟩ := h
  have := itoa_le x h1
  simp only [Rows.uptoBulk]
  omega
theorem dec_len (u : Nat) (h : u < 18446744073709551616) : (Lib.decDigits u).length ≤ 20 := by rw [Lib.decDigits_length]; exact Lib.nDigits_le20 u h
theorem rep_len (x : S32) (d : DataW H) (h : goodRep x d) (hb : Rows.uptoBulk d ≤ 1048576) : (repL x).length ≤ 23 * Rows.uptoBulk d := by
  obtain ⟨h0, h2, h3, hst, hst2, hcn, a, b, c, e, f, g, hh, k, dn, dr, dm, rfl, en, er, em⟩ := h
  simp only [Rows.uptoBulk, Rows.uptoBulkAll] at hb ⊢
  have l1 := elems_le _ (fun v : ByteArray => (quoteL v.data.toList).length + 2) name_len en
  have l2 := elems_le _ (fun v : List S84 => (lineL [32, 32] valueL v).length) (fun v z hv => row_len v z hv.1 hv.2) (elems_small er (by omega))
  have l3 := elems_le _ (fun v : Int => (Lib.itoa v).length + 1) num_len em
  have m1 := line_len [124, 32] (fun s : ByteArray => quoteL s.data.toList) x.f4.f1
  have m2 : (tabL x.f4.f2).length = (x.f4.f2.map (fun v : List S84 => (lineL [32, 32] valueL v).length)).sum := by simp only [tabL, List.length_flatMap]
  have m3 : (numsL x.f5).length = (x.f5.map (fun v : Int => (Lib.itoa v).length + 1)).sum := by simp only [numsL, List.length_flatMap, List.length_cons]
  have n1 := itoa_le x.f0 h0
  have n2 := headW_len x.f1 x.f2 h2.1 h2.2
  have n3 := codeL_len x.f3 h3
  have n4 := itoa_le x.f4.f3 hcn
  have n5 := dec_len x.f4.f4.toNat hst2
  have hc : (cntL x.f4.f3).length ≤ 28 := by unfold cntL; split <;> simp only [List.length_append, List.length_cons, List.length_nil] <;> omega
  have hs : (stpL x.f4.f4.toNat).length ≤ 27 := by unfold stpL; split <;> simp only [List.length_append, List.length_cons, List.length_nil] <;> omega
  have he : (endL x.f4.f5).length ≤ 7 := by
    unfold endL
    by_cases c1 : x.f4.f5 = 1
    · rw [if_pos c1]; decide
    · rw [if_neg c1]
      by_cases c2 : x.f4.f5 = 2
      · rw [if_pos c2]; decide
      · rw [if_neg c2]; decide
  have hr : (repHead x.f0 x.f1 x.f2 x.f3).length ≤ 67 := by simp only [repHead, List.length_append, List.length_cons, List.length_nil]; omega
  have ht : (namesL x.f4.f1).length ≤ 3 + (x.f4.f1.map (fun v : ByteArray => (quoteL v.data.toList).length + 2)).sum := by simp only [namesL]; simp only [List.length_cons, List.length_nil] at m1; omega
  have hres : (resL x.f4.f3 x.f4.f4.toNat x.f4.f5 x.f4.f1 x.f4.f2).length ≤ 66 + (x.f4.f1.map (fun v : ByteArray => (quoteL v.data.toList).length + 2)).sum + (tabL x.f4.f2).length := by
    unfold resL
    split <;> simp only [List.length_append, List.length_cons, List.length_nil] <;> omega
  unfold repL
  split <;> simp only [List.length_append, List.length_cons, List.length_nil] <;> omega
theorem rep_ok (x : S32) (d : DataW H) (h : goodRep x d) (hb : Rows.uptoBulk d ≤ 1048576) : okRep x := by
  obtain ⟨h0, h2, h3, hst, hst2, hcn, a, b, c, e, f, g, hh, k, dn, dr, dm, rfl, en, er, em⟩ := h
  simp only [Rows.uptoBulk, Rows.uptoBulkAll] at hb
  have l1 := len_le _ en
  have l2 := len_le _ er
  have l3 := len_le _ em
  refine ⟨h0, h2, h3, hst, ⟨hcn, hst2, by omega, ?_, by omega, ?_⟩, by omega, ?_⟩
  · intro s hs
    obtain ⟨z, hz, hzb⟩ := elem_of en s hs
    unfold goodStr at hz
    subst hz
    simp only [Rows.uptoBulk, size_of] at hzb
    omega
  · intro r hr
    obtain ⟨z, hz, hzb⟩ := elem_of er r hr
    have := len_le _ hz
    refine ⟨by omega, fun v hv => ?_⟩
    obtain ⟨z2, hz2, hzb2⟩ := elem_of hz v hv
    have h5 := val_size v z2 hz2
    exact ⟨hz2.1, by omega⟩
  · intro m hm
    obtain ⟨z, hz, _⟩ := elem_of em m hm
    exact hz.1
theorem all_ok {rs : List S32} {d : DataW H} (h : Elems goodRep rs d) (hb : Rows.uptoBulk d ≤ 1048576) : okAll rs := by
  have l := len_le _ h
  have l2 := elems_le _ (fun v : S32 => (repL v).length) (fun v z hv => rep_len v z hv.1 hv.2) (elems_small h hb)
  have l3 : (printL rs).length = (rs.map (fun v : S32 => (repL v).length)).sum := by simp only [printL, List.length_flatMap]
  refine ⟨by omega, fun r hr => ?_, by omega⟩
  obtain ⟨z, hz, hzb⟩ := elem_of h r hr
  exact rep_ok r z hz (by omega)
end
/-! The package variables. -/
set_option maxRecDepth 100000 in
theorem mem_heads {W : World} {laid : List (String × DataW Unit)} (hf : (laid.filter fun x => x.2.handleName?.isNone).filter (fun x => x.1 == "strata/store.heads") = [("strata/store.heads", Rows.laid_strata_store_heads)])
    (h : laidMetH Tryd.prog laid W) : ∀ (j : Nat) (l : List UInt8), headL[j]? = some l → W.cell? ⟨0, j, none⟩ = some (.string (str l)) := by
  have h1 := (laidMetH_iff.1 h).1.filter (fun x => x.1 == "strata/store.heads")
  rw [hf] at h1
  obtain ⟨ps, ⟨g', t', cs, fuel, p, q, hg', ht', hvar, hd, _, _⟩, _⟩ := h1
  have hg : Tryd.prog.globalNamed "strata/store.heads" = some 0 := by kernel_rfl
  have hty : (Tryd.prog.globals[0]?).map (·.type) = some 105 := by kernel_rfl
  obtain rfl := Option.some.inj (hg.symm.trans hg')
  obtain rfl := Option.some.inj (hty.symm.trans ht')
  obtain ⟨xs, m, _, hx, hlen, hxl, hel⟩ := DataW.trod_array (n := 13) (e := 9) (by kernel_rfl) hd
  have hC2 : Tryd.prog.cellsOf 105 = 13 := by kernel_rfl
  rw [hC2] at hlen
  have hdat : xs.map (·.1) = headL.map (fun l => (.lit (.string l) : DataW Unit)) := by
    have := congrArg Prod.fst hx
    simp only [Rows.laid_strata_store_heads] at this
    injection this with this
    rw [← this]
    rfl
  intro j l hj
  rw [World.var?_cell hg hvar j]
  have hjl : j < 13 := (List.getElem?_eq_some_iff.1 hj).1
  have hh := hel j hjl
  have hxj : (xs.map (·.1))[j]? = some (.lit (.string l)) := by rw [hdat, List.getElem?_map, hj]; rfl
  rw [List.getElem?_map, Option.map_eq_some_iff] at hxj
  obtain ⟨y, hy, hya⟩ := hxj
  rw [c1_9, hy] at hh
  obtain ⟨s, e0, rfl, _⟩ := DataW.trod_string Tryd.underlying9 hh
  simp only [DataW.lit.injEq, Lit.string.injEq] at hya
  have g0 := congrArg (·[0]?) e0
  simp only [List.getElem?_take, List.getElem?_drop, Nat.mul_one, Nat.add_zero] at g0
  have g1 : cs[j]? = some (.string s) := by simpa using g0
  have es : str l = s := by rw [← hya]
  rw [es]
  simpa using g1
set_option maxRecDepth 100000 in
theorem mem_pow {W : World} {laid : List (String × DataW Unit)} (hf : (laid.filter fun x => x.2.handleName?.isNone).filter (fun x => x.1 == "internal/strconv.uint64pow10") = [("internal/strconv.uint64pow10", Rows.laid_internal_strconv_uint64pow10)])
    (h : laidMetH Tryd.prog laid W) : Lib.TabIs Tryd.prog W "internal/strconv.uint64pow10" .u64 Lib.pow10Tab := by
  have h1 := (laidMetH_iff.1 h).1.filter (fun x => x.1 == "internal/strconv.uint64pow10")
  rw [hf] at h1
  have e : Rows.laid_internal_strconv_uint64pow10 = Lib.tabData (H := Unit) .u64 Lib.pow10Tab := by rfl
  rw [e] at h1
  exact Lib.tabIs_of_head (g := 2) (t := 178) (e := 27) (n := 20) (by kernel_rfl) (by kernel_rfl) (by kernel_rfl) Tryd.underlying27 c1_27 (by kernel_rfl) h1
theorem globals_of {W : World} {laid : List (String × DataW Unit)} (hf : (laid.filter fun x => x.2.handleName?.isNone).filter (fun x => x.1 == "strata/store.heads") = [("strata/store.heads", Rows.laid_strata_store_heads)])
    (hf2 : (laid.filter fun x => x.2.handleName?.isNone).filter (fun x => x.1 == "internal/strconv.uint64pow10") = [("internal/strconv.uint64pow10", Rows.laid_internal_strconv_uint64pow10)])
    (h : laidMetH Tryd.prog laid W) (hs : W.ShapedOpen Tryd.prog) : GP W :=
  ⟨mem_pow hf2 h, cell_of_shapedOpen_int (t := 3) (zero := #[.int .i64 0]) hs (of_decide_eq_true (by kernel_rfl)) (by kernel_rfl) rfl (by kernel_rfl) (by kernel_rfl) Tryd.underlying3, mem_heads hf h⟩
end Go.Proofs.YtggbhdcgfnjogaaDoor.ArgPrint
