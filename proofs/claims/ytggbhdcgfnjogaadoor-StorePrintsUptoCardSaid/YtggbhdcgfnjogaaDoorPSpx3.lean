-- Laid by inj.py, a program of this session, which runs the kit's print tool beside contracts typed by hand. Not trusted: Lean checks it.
import Derived.Test.YtggbhdcgfnjogaaDoorPSpx0
namespace Go.Proofs.YtggbhdcgfnjogaaDoor.PSp
open Go.RowKit Go.Proofs.YtggbhdcgfnjogaaDoorW.PrintWords Go.Proofs.YtggbhdcgfnjogaaDoorW.PrintLast Go.Proofs.YtggbhdcgfnjogaaDoorW.PrintMore
attribute [local go_sem] max2_int min2_int max_two min_two max_three min_three max_four min_four   -- for this text's walks alone
set_option linter.unusedVariables false
set_option linter.unusedSimpArgs false

/-! ### store_Print: function 8 (by hand) -/
open Go.Sort Go.Lib in
theorem zeros_at (w : World) (T : TypeId) (nd : Nat) (hs : nd ≤ 24) : Holds (fun (b : UInt8) => Value.int .u8 (b.toNat : Int)) (w.alloc (.cells Lib.zeros24 T)) w.heap.size 0 (Array.replicate nd (0 : UInt8)) := fun j hj => by
  have hj' : j < nd := by simpa using hj
  refine ⟨?_, World.frozen?_alloc_new _ _ _ _⟩
  rw [World.cell?_alloc_new, Lib.zeros24_at _ (by omega), getElem!_pos _ j hj]
  simp
open Go.Sort in
theorem below_grow (w : World) (q : Nat) (os : Array Obj) : Below w.heap.size w (grow (w.drewN q) os) :=
  ⟨rfl, rfl, rfl, by first | (simp [grow]; done) | (simp [grow]; omega), fun i hi => by
    show ((w.drewN q).heap ++ os)[i]? = _
    rw [Array.getElem?_append_left (by show i < w.heap.size; omega)]
    rfl⟩
open Go.Sort in
theorem row_new (w : World) (o : Obj) (dk : Array UInt8) (k : Nat) : Below w.heap.size w ((putRow (fun (b : UInt8) => Value.int .u8 (b.toNat : Int)) (w.alloc o) w.heap.size 0 dk).drewN k) := by
  rw [alloc_eq_grow]
  obtain ⟨os', _, e⟩ := putRow_grow_new (fun (b : UInt8) => Value.int .u8 (b.toNat : Int)) w #[o] w.heap.size 0 dk (Nat.le_refl _)
  rw [e]
  exact pw_below_drewN (below_grow w 0 os') k
open Go.Sort Go.Lib in
set_option maxHeartbeats 6400000 in
set_option maxRecDepth 100000 in
theorem fmtU_in (u : Nat) (hu64 : u < 18446744073709551616) (w : World) (htab : Lib.TabIs Tryd.prog w "internal/strconv.uint64pow10" .u64 Lib.pow10Tab) :
    Calls Tryd.prog 93 #[.int .u64 u, .int .i64 10] w fun e w' => e = .returned (.string ⟨(Lib.decDigits u).toArray⟩) ∧ Below w.heap.size w w' := by
  by_cases hs : u < 100
  · have d1 : decide ((u : Int) < 100) = true := decide_eq_true (by omega)
    have d2 : decide (u < 100) = true := decide_eq_true hs
    go_enter Tryd.func93, Tryd.ntmps93
    go_wp2_with (go_at_call 121; refine (Tryd.internal_strconv_small u hs _).mono ?_; rintro e w' ⟨rfl, rfl⟩)
    go_ret
    exact ⟨rfl, Below.refl _ _⟩
  · have hu1 : 1 ≤ u := by omega
    have d1 : decide ((u : Int) < 100) = false := decide_eq_false (by omega)
    have d2 : decide (u < 100) = false := decide_eq_false hs
    have hnd20 : Lib.nDigits u ≤ 20 := by have := Lib.numDigits_eq u hu1 hu64; split at this <;> omega
    have hb3 : Lib.nDigits u ≤ 24 := by omega
    have hal : Tryd.prog.arrayLen 165 = 24 := by simp [Program.arrayLen, Tryd.underlying165]
    have hsl : ∀ W, (Instr.sliceAt 165 (.pointer (some ⟨w.heap.size, 0, none⟩)) none (some (.int .i64 (Lib.nDigits u : Int))) none).run Tryd.prog W = .ok (.slice (some ⟨w.heap.size, 0, none⟩) (Lib.nDigits u) 24) W := fun W => by
      rw [run_sliceAt_array_h W 165 ⟨w.heap.size, 0, none⟩ (by simp [Program.arrayLen, Program.elem, Tryd.underlying165]) .i64 (Lib.nDigits u : Int) (by omega) (by rw [hal]; omega)]
      go_simp
    have hH0 := zeros_at w 165 (Lib.nDigits u) (by omega)
    have hfmt := Tryd.internal_strconv_formatBase10 w.heap.size 0 24 u (Array.replicate (Lib.nDigits u) 0) (w.alloc (.cells Lib.zeros24 165)) hH0 (by rw [Array.size_replicate]; exact Lib.lt_pow_nDigits u) hu64 (by rw [Array.size_replicate]; omega)
    rw [Array.size_replicate] at hfmt
    have HH0 := Lib.hid hH0
    clear hH0 hal
    go_enter Tryd.func93, Tryd.ntmps93
    go_wp2_with (first
      | (go_at_call 122; refine (Tryd.internal_strconv_numDigits u hu1 hu64 _ (Lib.tabIs_alloc htab _)).mono ?_; rintro e w' ⟨rfl, rfl⟩))
    go_at_call 123
    refine hfmt.mono ?_
    rintro e w' ⟨rfl, k, v', dk, rfl, hF⟩
    have hcv : (convert 66 9 (.slice (some ⟨w.heap.size, 0, none⟩) (Lib.nDigits u) 24)).run Tryd.prog ((putRow (fun (b : UInt8) => Value.int .u8 (b.toNat : Int)) (w.alloc (.cells Lib.zeros24 165)) w.heap.size 0 dk).drewN k) = .ok (.string ⟨(Lib.decDigits u).toArray⟩) ((putRow (fun (b : UInt8) => Value.int .u8 (b.toNat : Int)) (w.alloc (.cells Lib.zeros24 165)) w.heap.size 0 dk).drewN k) := by
      have h := run_convert_bytes_back (P := Tryd.prog) ((putRow (fun (b : UInt8) => Value.int .u8 (b.toNat : Int)) (w.alloc (.cells Lib.zeros24 165)) w.heap.size 0 dk).drewN k) 66 9 5 ⟨w.heap.size, 0, none⟩ 24 (Lib.decDigits u) Tryd.underlying66 Tryd.underlying5 Tryd.underlying9 (fun j hj => by
        rw [Lib.row_is_numeral hF j hj, Lib.add_plain, World.cell?_drewN]
        exact cell?_putRow (fun (b : UInt8) => Value.int .u8 (b.toNat : Int)) _ w.heap.size 0 _ dk HH0.out (by rw [hF.size, Array.size_replicate]) j (by rw [hF.size]; rw [Lib.decDigits_length] at hj; exact hj))
      rw [Lib.decDigits_length] at h
      exact h
    go_wp2
    go_ret
    exact ⟨rfl, row_new _ _ _ _⟩
theorem fmtU_calls (u : Nat) (hu64 : u < 18446744073709551616) (w : World) (htab : Lib.TabIs Tryd.prog w "internal/strconv.uint64pow10" .u64 Lib.pow10Tab) :
    Calls Tryd.prog 58 #[.int .u64 u, .int .i64 10] w fun e w' => e = .returned (.string ⟨(Lib.decDigits u).toArray⟩) ∧ Below w.heap.size w w' := by
  go_enter Tryd.func58, Tryd.ntmps58
  go_wp2_with (go_at_call 93; refine (fmtU_in u hu64 _ htab).mono ?_; rintro e w' ⟨rfl, hb⟩)
  go_ret
  exact ⟨rfl, hb⟩
open Go.Sort in
theorem itoa_calls (n : Int) (h0 : -9223372036854775808 ≤ n) (h1 : n ≤ 9223372036854775807) (w : World) (htab : Lib.TabIs Tryd.prog w "internal/strconv.uint64pow10" .u64 Lib.pow10Tab) :
    Calls Tryd.prog 22 #[.int .i64 n] w fun e w' => e = .returned (.string ⟨(Lib.itoa n).toArray⟩) ∧ Below w.heap.size w w' :=
  (Tryd.strconv_Itoa n h0 h1 w htab).mono fun e w' ⟨he, k, os, hw⟩ => ⟨he, by rw [hw]; exact below_grow w k os⟩
open Go.Sort in
theorem fmtI_calls (n : Int) (h0 : -9223372036854775808 ≤ n) (h1 : n ≤ 9223372036854775807) (w : World) (htab : Lib.TabIs Tryd.prog w "internal/strconv.uint64pow10" .u64 Lib.pow10Tab) :
    Calls Tryd.prog 95 #[.int .i64 n, .int .i64 10] w fun e w' => e = .returned (.string ⟨(Lib.itoa n).toArray⟩) ∧ Below w.heap.size w w' :=
  (Tryd.strconv_FormatInt_10 n h0 h1 w htab).mono fun e w' ⟨he, k, os, hw⟩ => ⟨he, by rw [hw]; exact below_grow w k os⟩
abbrev Bd (B b : Nat) (l : List UInt8) (w : World) : Prop := Lib.IsBuilderF 68 5 B b (Lib.byteCells l) w
set_option maxRecDepth 100000 in
theorem copy_used (b : Nat) (w : World) (h0 : w.cell? ⟨b, 0, none⟩ = some (.pointer (some ⟨b, 0, none⟩))) :
    Calls Tryd.prog 56 #[.pointer (some ⟨b, 0, none⟩)] w fun e w' => e = .returned (.tuple #[]) ∧ w' = w := by
  have mixed := Tryd.lays169.mixed
  obtain ⟨j, hj, _⟩ := Option.map_eq_some_iff.1 (show (Tryd.prog.info? 68).map (·.size) = some 2 by kernel_rfl)
  go_enter Tryd.func56, Tryd.ntmps56
  go_wp2
  rw [Lib.run_neq_ptr_same w _ Tryd.underlying65 hj]
  go_wp2
  go_end0
  exact ⟨rfl, rfl⟩
set_option maxRecDepth 100000 in
theorem copy_fresh (b : Nat) (w : World) (h0 : w.cell? ⟨b, 0, none⟩ = some (.pointer none)) (hsh : w.shape? b = some (68, 2)) (hfz : w.frozen? ⟨b, 0, none⟩ = false) :
    Calls Tryd.prog 56 #[.pointer (some ⟨b, 0, none⟩)] w fun e w' => e = .returned (.tuple #[]) ∧ w' = w.setCell ⟨b, 0, none⟩ (.pointer (some ⟨b, 0, none⟩)) := by
  obtain ⟨j, hj, hjs⟩ := Option.map_eq_some_iff.1 (show (Tryd.prog.info? 68).map (·.size) = some 2 by kernel_rfl)
  go_enter Tryd.func56, Tryd.ntmps56
  go_wp2
  rw [Lib.run_to_unsafe w ⟨b, 0, none⟩ Tryd.underlying65 Tryd.underlying147 hj (by rw [hjs]; decide) hsh (Nat.zero_lt_succ 1)]
  simp only [Result.andThen]
  rw [Oper.upon_value]
  go_wp2
  rw [run_callFunc_extern Tryd.func91 (by kernel_rfl) (by kernel_rfl) (by kernel_rfl) (e := Extern.AbiNoEscape.same) (by kernel_rfl)]
  rw [Lib.run_noEscape]
  simp only [Result.andThen]
  rw [Oper.upon_value]
  go_wp2
  rw [Lib.run_from_unsafe w ⟨b, 0, none⟩ Tryd.underlying147 Tryd.underlying65 hj hsh Tryd.Builder_Extra_169.liesBuilder]
  simp only [Result.andThen]
  rw [Oper.upon_value]
  go_wp2
  go_end0
  exact ⟨rfl, rfl⟩
theorem copy_calls (B b : Nat) (l : List UInt8) (w : World) (h : Bd B b l w) :
    Calls Tryd.prog 56 #[.pointer (some ⟨b, 0, none⟩)] w fun e w' => e = .returned (.tuple #[]) ∧ (Lib.BuilderAtF 68 5 B b (.pointer (some ⟨b, 0, none⟩)) (Lib.byteCells l) w' ∧ Below B w w' ∧ Lib.OthersKept 5 (some b) w w') := by
  rcases h with h | h
  · refine (copy_fresh b w h.cell0 h.shape h.frozen0).mono ?_
    rintro e w' ⟨rfl, rfl⟩
    exact ⟨rfl, h.used _, (Below.refl B w).setCell (p := ⟨b, 0, none⟩) h.1 _, (Lib.OthersKept.refl _ _ w).setCell ⟨b, 0, none⟩ rfl _⟩
  · refine (copy_used b w h.cell0).mono ?_
    rintro e w' ⟨rfl, rfl⟩
    exact ⟨rfl, h, Below.refl B _, Lib.OthersKept.refl _ _ _⟩
def bdOut (B b : Nat) (l : List UInt8) (w w' : World) : Prop := Bd B b l w' ∧ Below B w w' ∧ Lib.OthersKept 5 (some b) w w'
set_option maxRecDepth 100000 in
set_option maxHeartbeats 2000000 in
theorem wbyte_calls (B b : Nat) (l : List UInt8) (c : UInt8) (w : World) (h : Bd B b l w) (hlen : l.length + 1 ≤ 140737488355328) (hBw : B ≤ w.heap.size) :
    Calls Tryd.prog 26 #[.pointer (some ⟨b, 0, none⟩), .int .u8 (c.toNat : Int)] w fun e w' => e = .returned .nilIface ∧ bdOut B b (l ++ [c]) w w' := by
  obtain ⟨i0, hi, hz0, hz1, hz2⟩ := info_parts Tryd.Builder_Extra_169.infoByte
  have mixed := Tryd.lays169.mixed
  have hl : (Lib.byteCells l).length = l.length := by simp [Lib.byteCells]
  go_enter Tryd.func26, Tryd.ntmps26
  go_wp2_with (go_at_call 56; refine (copy_calls B b l _ h).mono ?_)
  rintro e w1 ⟨rfl, h1, hb1, hk1⟩
  obtain ⟨hB, v, hbk, hown, hne⟩ := h1
  have c0 : w1.cell? ⟨b, 0, none⟩ = some (.pointer (some ⟨b, 0, none⟩)) := by rw [Lib.cell_of_heap hbk]; rfl
  have c1 : w1.cell? ⟨b, 1, none⟩ = some v := by rw [Lib.cell_of_heap hbk]; rfl
  go_wp2_with (at_builtin; refine wpList_append_ownF _ rfl _ _ 66 rfl B 5 i0 (.int .u8 0) 1 1 Tryd.underlying66 hi hz0 hz1 hz2 rfl (by decide) _ _ _ rfl (hown.alloc _) ⟨w1.heap.size, 0, none⟩ 1 1 [.int .u8 (c.toNat : Int)] rfl rfl ?c1 ?c2 ?c3 ?c4 ?c5 ?_)
  case c1 =>
    intro j u hj
    match j, hj with
    | 0, hj => simp at hj; subst hj; simp [Addr.add]
  case c2 => intro u hu; simp at hu; subst hu; rfl
  case c3 => unfold maxLen; omega
  case c4 => omega
  case c5 => have := hb1.size; simp; omega
  intro v' w2 hown' hgrow _
  have hlt : b < w1.heap.size := by
    rcases Nat.lt_or_ge b w1.heap.size with h' | h'
    · exact h'
    · simp [Array.getElem?_eq_none h'] at hbk
  have hb2 : w2.heap[b]? = some (.cells #[.pointer (some ⟨b, 0, none⟩), v] 68 (0, 0)) := by
    rw [hgrow.block b (by simp; omega) (fun e => hne e.symm), Lib.alloc_old w1 _ b hlt]
    exact hbk
  have d0 : w2.cell? ⟨b, 0, none⟩ = some (.pointer (some ⟨b, 0, none⟩)) := by rw [Lib.cell_of_heap hb2]; rfl
  have d1 : w2.cell? ⟨b, 1, none⟩ = some v := by rw [Lib.cell_of_heap hb2]; rfl
  have f1 : w2.frozen? ⟨b, 1, none⟩ = false := Lib.frozen_of_heap hb2 1
  obtain ⟨g, cap, rfl⟩ : ∃ g cap, v' = .slice (some ⟨g, 0, none⟩) (l.length + 1) cap := by
    rcases hown'.2 with ⟨_, h0⟩ | ⟨g, cap, cur, fz, hv, _⟩
    · omega
    · exact ⟨g, cap, hv⟩
  go_wp2
  go_ret
  refine ⟨rfl, Or.inr ?_, ?_, ((hk1.alloc _).grown hgrow (Lib.ownsRowF_kind (hown.alloc _))).setCell ⟨b, 1, none⟩ rfl _⟩
  · exact Lib.BuilderAtF.put (T := 68) (e := 5) hB hb2 (bs' := Lib.byteCells (l ++ [c])) (by simpa [Lib.byteCells] using hown') (by decide)
  · exact ((hb1.alloc (by have := hb1.size; omega) _).grown hgrow (by have := hb1.size; simp; omega) (fun k hk => (hown.lt k hk).1)).setCell (p := ⟨b, 1, none⟩) hB _
set_option maxRecDepth 100000 in
set_option maxHeartbeats 2000000 in
theorem wstr_calls (B b : Nat) (l : List UInt8) (s : ByteArray) (w : World) (h : Bd B b l w) (hlen : l.length + s.size ≤ 140737488355328) (hBw : B ≤ w.heap.size) :
    Calls Tryd.prog 21 #[.pointer (some ⟨b, 0, none⟩), .string s] w fun e w' => e = .returned (.tuple #[.int .i64 s.size, .nilIface]) ∧ bdOut B b (l ++ s.data.toList) w w' := by
  obtain ⟨i0, hi, hz0, hz1, hz2⟩ := info_parts Tryd.Builder_Extra_169.infoByte
  have mixed := Tryd.lays169.mixed
  have hl : (Lib.byteCells l).length = l.length := by simp [Lib.byteCells]
  go_enter Tryd.func21, Tryd.ntmps21
  go_wp2_with (go_at_call 56; refine (copy_calls B b l _ h).mono ?_)
  rintro e w1 ⟨rfl, h1, hb1, hk1⟩
  obtain ⟨hB, v, hbk, hown, hne⟩ := h1
  have c0 : w1.cell? ⟨b, 0, none⟩ = some (.pointer (some ⟨b, 0, none⟩)) := by rw [Lib.cell_of_heap hbk]; rfl
  have c1 : w1.cell? ⟨b, 1, none⟩ = some v := by rw [Lib.cell_of_heap hbk]; rfl
  go_wp2_with (at_builtin; refine Lib.wpList_append_own_stringF _ rfl _ _ 66 9 rfl B 5 i0 Tryd.underlying66 Tryd.underlying9 hi hz0 hz1 hz2 _ _ _ rfl hown s rfl ?c3 ?c4 ?c5 ?_)
  case c3 => unfold maxLen; omega
  case c4 => omega
  case c5 => have := hb1.size; omega
  intro v' w2 hown' hgrow _
  have hlt : b < w1.heap.size := by
    rcases Nat.lt_or_ge b w1.heap.size with h' | h'
    · exact h'
    · simp [Array.getElem?_eq_none h'] at hbk
  have hb2 : w2.heap[b]? = some (.cells #[.pointer (some ⟨b, 0, none⟩), v] 68 (0, 0)) := by
    rw [hgrow.block b hlt (fun e => hne e.symm)]
    exact hbk
  have d0 : w2.cell? ⟨b, 0, none⟩ = some (.pointer (some ⟨b, 0, none⟩)) := by rw [Lib.cell_of_heap hb2]; rfl
  have d1 : w2.cell? ⟨b, 1, none⟩ = some v := by rw [Lib.cell_of_heap hb2]; rfl
  have f1 : w2.frozen? ⟨b, 1, none⟩ = false := Lib.frozen_of_heap hb2 1
  obtain ⟨ao, n', cap, rfl⟩ : ∃ ao n' cap, v' = .slice ao n' cap := by
    rcases hown'.2 with ⟨hv, _⟩ | ⟨g, cap, cur, fz, hv, _⟩
    · exact ⟨_, _, _, hv⟩
    · exact ⟨_, _, _, hv⟩
  go_wp2
  go_ret2
  refine ⟨rfl, Or.inr ?_, ?_, (hk1.grown hgrow (Lib.ownsRowF_kind hown)).setCell ⟨b, 1, none⟩ rfl _⟩
  · exact Lib.BuilderAtF.put (T := 68) (e := 5) hB hb2 (bs' := Lib.byteCells (l ++ s.data.toList)) (by simpa [Lib.byteCells, Lib.strCells, Lib.strCells_length] using hown') (by decide)
  · exact (hb1.grown hgrow (by have := hb1.size; omega) (fun k hk => (hown.lt k hk).1)).setCell (p := ⟨b, 1, none⟩) hB _
def headL : List (List UInt8) := [[], [], [80, 76, 65, 89], [68, 82, 65, 73, 78], [84, 73, 67, 75], [70, 76, 85, 83, 72], [83, 89, 78, 67], [67, 72, 69, 67, 75, 80, 79, 73, 78, 84], [77, 69, 82, 71, 69], [67, 82, 65, 83, 72], [82, 69, 83, 84, 65, 82, 84], [67, 72, 69, 67, 75], [67, 85, 84]]
abbrev str (l : List UInt8) : ByteArray := ⟨l.toArray⟩
structure GP (w : World) : Prop where
  tab : Lib.TabIs Tryd.prog w "internal/strconv.uint64pow10" .u64 Lib.pow10Tab
  maxlen : ∃ m, w.cell? ⟨5, 0, none⟩ = some (.int .i64 m)
  heads : ∀ (j : Nat) (l : List UInt8), headL[j]? = some l → w.cell? ⟨0, j, none⟩ = some (.string (str l))
theorem tab_below {P : Program} {w w1 : World} {name : String} {k : IntKind} {zs : List Int} (h : Lib.TabIs P w name k zs) (hb : Below w.heap.size w w1) : Lib.TabIs P w1 name k zs := by
  unfold Lib.TabIs World.var? at *
  cases hg : P.globalNamed name with
  | none => simp [hg] at h
  | some g =>
    simp only [hg, Option.bind_some] at h ⊢
    have hlt : g < w.heap.size := by
      rcases Nat.lt_or_ge g w.heap.size with h' | h'
      · exact h'
      · rw [Array.getElem?_eq_none h'] at h; simp at h
    rw [hb.block g hlt]
    exact h
theorem GP.below {w w1 : World} (h : GP w) (hb : Below w.heap.size w w1) : GP w1 :=
  ⟨tab_below h.tab hb, let ⟨m, hm⟩ := h.maxlen; ⟨m, pw_cell_below hb hm⟩, fun j l hl => pw_cell_below hb (h.heads j l hl)⟩
theorem str_data (l : List UInt8) : (str l).data.toList = l := rfl
theorem str_size (l : List UInt8) : (str l).size = l.length := by show l.toArray.size = _; simp
theorem str_of (s : ByteArray) : str s.data.toList = s := by cases s; simp [str]
theorem replaceK_len (old new : List UInt8) : ∀ (k : Nat) (s : List UInt8), (Lib.replaceK old new k s).length ≤ s.length + k * new.length := by
  intro k
  induction k with
  | zero => intro s; simp [Lib.replaceK]
  | succ k ih =>
    intro s
    unfold Lib.replaceK
    split
    · omega
    · have := ih (s.drop ((Lib.index s old).toNat + old.length))
      simp only [List.length_append, List.length_take, List.length_drop] at *
      rw [Nat.succ_mul]
      omega
theorem replaceAll_len (t : ByteArray) : (Lib.replaceAll t.data.toList [39] [39, 39]).length ≤ 3 * t.size := by
  unfold Lib.replaceAll Lib.replace
  rw [if_neg (by decide)]
  have h := replaceK_len [39] [39, 39] (Lib.replaceNum t.data.toList [39] (-1)) t.data.toList
  have h2 : Lib.replaceNum t.data.toList [39] (-1) ≤ t.size := by
    unfold Lib.replaceNum
    rw [if_pos (by omega)]
    exact Lib.countB_le ⟨#[39]⟩ (by decide) t.size t (Nat.le_refl _)
  have h3 : t.data.toList.length = t.size := by rw [Array.length_toList]; rfl
  simp only [List.length_cons, List.length_nil] at h
  omega
def quoteL (l : List UInt8) : List UInt8 := 39 :: (Lib.replaceAll l [39] [39, 39] ++ [39])
theorem quoteL_len (s : ByteArray) : (quoteL s.data.toList).length ≤ 3 * s.size + 2 := by
  have := replaceAll_len s
  simp only [quoteL, List.length_cons, List.length_append, List.length_nil]
  omega
theorem app_str (a b : List UInt8) : (⟨a.toArray⟩ : ByteArray) ++ (⟨b.toArray⟩ : ByteArray) = ⟨(a ++ b).toArray⟩ := by
  apply ByteArray.ext
  simp
theorem str_eq {a b : ByteArray} (h : a = b) : Ending.returned (.string a) = Ending.returned (.string b) := by rw [h]
set_option maxRecDepth 100000 in
theorem quoted_calls (s : ByteArray) (w : World) (hs : s.size ≤ 1000000000) (hG : GP w) :
    Calls Tryd.prog 60 #[.string s] w fun e w' => e = .returned (.string (str (quoteL s.data.toList))) ∧ Below w.heap.size w w' := by
  obtain ⟨m, hm⟩ := hG.maxlen
  have HM := Aside0.mk hm
  have HC := Aside0.mk (Lib.countB_le ⟨#[39]⟩ (by decide) s.size s (Nat.le_refl _))
  have hl := replaceAll_len s
  obtain ⟨R, hR⟩ : ∃ R, R = Lib.replaceAll s.data.toList [39] [39, 39] := ⟨_, rfl⟩
  have HR := Aside0.mk hR
  rw [← hR] at hl
  have c1 : (9223372036854775807 < 1 + R.length) = False := eq_false (by omega)
  have c2 : (9223372036854775807 < 1 + R.length + 1) = False := eq_false (by omega)
  clear hm hG hR
  go_enter Tryd.func60, Tryd.ntmps60
  go_wp2_with (first | (go_at_call 94; go_must (refine (Tryd.strings_ReplaceAll s ⟨#[39]⟩ ⟨#[39, 39]⟩ m _ (by omega) HM.out (by decide) (by have := HC.out; simp only [show (⟨#[39, 39]⟩ : ByteArray).size = 2 from rfl]; omega)).mono ?_; rintro e w1 ⟨rfl, hb⟩; rw [show (Lib.replaceAll s.data.toList (⟨#[39]⟩ : ByteArray).data.toList (⟨#[39, 39]⟩ : ByteArray).data.toList) = R from HR.out.symm])))
  go_ret
  refine ⟨str_eq ?_, hb⟩
  have h2 := HR.out
  subst h2
  show (⟨[39].toArray⟩ : ByteArray) ++ ⟨_⟩ ++ ⟨[39].toArray⟩ = _
  rw [app_str, app_str]
  rfl
/-! valueWord, codeWord, head. -/
def valueL (x : S84) : List UInt8 := if x.f0 = 2 then Lib.itoa x.f1 else if x.f0 = 3 then quoteL x.f2.data.toList else if x.f0 = 1 then (if x.f1 = 1 then [84, 82, 85, 69] else [70, 65, 76, 83, 69]) else [78, 85, 76, 76]
def inI (x : Int) : Prop := -9223372036854775808 ≤ x ∧ x ≤ 9223372036854775807
def okVal (x : S84) : Prop := inI x.f1 ∧ x.f2.size ≤ 1000000000
set_option maxRecDepth 100000 in
theorem value_calls (x : S84) (w : World) (hx : okVal x) (hG : GP w) :
    Calls Tryd.prog 62 #[.agg #[.int .i64 x.f0, .int .i64 x.f1, .string x.f2]] w fun e w' => e = .returned (.string (str (valueL x))) ∧ Below w.heap.size w w' := by
  obtain ⟨⟨h0, h1⟩, hs⟩ := hx
  have HB := Aside0.mk (below_alloc (Below.refl w.heap.size w) (.cells #[.int .i64 x.f0, .int .i64 x.f1, .string x.f2] 84))
  have HG := Aside0.mk (hG.below HB.out)
  clear hG
  unfold valueL
  have fin : ∀ {w1 : World}, Below (w.alloc (.cells #[.int .i64 x.f0, .int .i64 x.f1, .string x.f2] 84)).heap.size (w.alloc (.cells #[.int .i64 x.f0, .int .i64 x.f1, .string x.f2] 84)) w1 → Below w.heap.size w w1 := fun hb => below_then HB.out (by simp) hb
  have HF := Aside0.mk @fin
  clear fin
  by_cases c2 : x.f0 = 2
  · rw [if_pos c2]
    have d2 : (x.f0 == 2) = true := by simpa using c2
    clear c2
    go_enter Tryd.func62, Tryd.ntmps62
    go_wp2_with (first | (go_at_call 95; go_must (refine (fmtI_calls x.f1 h0 h1 _ HG.out.tab).mono ?_; rintro e w1 ⟨rfl, hb⟩)))
    go_ret
    exact ⟨rfl, HF.out hb⟩
  rw [if_neg c2]
  have d2 : (x.f0 == 2) = false := by simpa using c2
  by_cases c3 : x.f0 = 3
  · rw [if_pos c3]
    have d3 : (x.f0 == 3) = true := by simpa using c3
    clear c3
    go_enter Tryd.func62, Tryd.ntmps62
    go_wp2_with (first | (go_at_call 60; go_must (refine (quoted_calls x.f2 _ hs HG.out).mono ?_; rintro e w1 ⟨rfl, hb⟩)))
    go_ret
    exact ⟨rfl, HF.out hb⟩
  rw [if_neg c3]
  have d3 : (x.f0 == 3) = false := by simpa using c3
  by_cases c1 : x.f0 = 1
  · rw [if_pos c1]
    have d1 : (x.f0 == 1) = true := by simpa using c1
    by_cases c0 : x.f1 = 1
    · rw [if_pos c0]
      have d0 : (x.f1 == 1) = true := by simpa using c0
      clear c0 c1 c2 c3
      go_enter Tryd.func62, Tryd.ntmps62
      go_wp2
      go_ret
      exact ⟨rfl, HB.out⟩
    · rw [if_neg c0]
      have d0 : (x.f1 == 1) = false := by simpa using c0
      clear c0 c1 c2 c3
      go_enter Tryd.func62, Tryd.ntmps62
      go_wp2
      go_ret
      exact ⟨rfl, HB.out⟩
  rw [if_neg c1]
  have d1 : (x.f0 == 1) = false := by simpa using c1
  clear c1 c2 c3
  go_enter Tryd.func62, Tryd.ntmps62
  go_wp2
  go_ret
  exact ⟨rfl, HB.out⟩
def codeL (c : Int) : List UInt8 := if c = 0 then [79, 75] else 69 :: Lib.itoa c
set_option maxRecDepth 100000 in
theorem code_calls (c : Int) (w : World) (hc : inI c) (hG : GP w) :
    Calls Tryd.prog 24 #[.int .i64 c] w fun e w' => e = .returned (.string (str (codeL c))) ∧ Below w.heap.size w w' := by
  unfold codeL
  have HG := Aside0.mk hG
  obtain ⟨h0, h1⟩ := hc
  clear hG
  by_cases c0 : c = 0
  · rw [if_pos c0]
    have d0 : (c == 0) = true := by simpa using c0
    clear c0
    go_enter Tryd.func24, Tryd.ntmps24
    go_wp2
    go_ret
    exact ⟨rfl, Below.refl _ _⟩
  · rw [if_neg c0]
    have d0 : (c == 0) = false := by simpa using c0
    have hl := Lib.itoa_length_le c h0 h1
    have c1 : (9223372036854775807 < 1 + (Lib.itoa c).length) = False := eq_false (by omega)
    clear c0
    go_enter Tryd.func24, Tryd.ntmps24
    go_wp2_with (first | (go_at_call 22; go_must (refine (itoa_calls c h0 h1 _ HG.out.tab).mono ?_; rintro e w1 ⟨rfl, hb⟩)))
    go_ret
    refine ⟨str_eq ?_, hb⟩
    show (⟨[69].toArray⟩ : ByteArray) ++ ⟨_⟩ = _
    rw [app_str]
    rfl
def headW (kind who : Int) : List UInt8 := if kind = 1 then 64 :: Lib.itoa who else if kind < 0 ∨ 13 ≤ kind then [63] else if headL.getD kind.toNat [] = [] then [63] else headL.getD kind.toNat []
theorem headL_at (kind : Int) (h0 : 0 ≤ kind) (h1 : kind < 13) : headL[kind.toNat]? = some (headL.getD kind.toNat []) := by
  have : headL.length = 13 := rfl
  rw [List.getD_eq_getElem?_getD, List.getElem?_eq_getElem (by omega)]
  rfl
theorem headW_len (kind who : Int) (h0 : -9223372036854775808 ≤ who) (h1 : who ≤ 9223372036854775807) : (headW kind who).length ≤ 22 := by
  have := Lib.itoa_length_le who h0 h1
  unfold headW
  split
  · simp only [List.length_cons]; omega
  · split
    · simp
    · rename_i h2 h3
      have hh : ∀ l ∈ headL, l.length ≤ 22 := by decide
      have := hh _ (List.mem_of_getElem? (headL_at kind (by omega) (by omega)))
      split
      · simp
      · exact this
set_option maxRecDepth 100000 in
theorem head_calls (cmd kind who code c0 c3 c4 c5 : Int) (v5 v6 v10 : Value) (w : World) (h0 : -9223372036854775808 ≤ who) (h1 : who ≤ 9223372036854775807) (hG : GP w) :
    Calls Tryd.prog 23 #[.agg #[.int .i64 cmd, .int .i64 kind, .int .i64 who, .int .i64 code, .int .i64 c0, v5, v6, .int .i64 c3, .int .u64 c4, .int .i64 c5, v10]] w fun e w' => e = .returned (.string (str (headW kind who))) ∧ Below w.heap.size w w' := by
  have HB := Aside0.mk (below_alloc (Below.refl w.heap.size w) (.cells #[.int .i64 cmd, .int .i64 kind, .int .i64 who, .int .i64 code, .int .i64 c0, v5, v6, .int .i64 c3, .int .u64 c4, .int .i64 c5, v10] 32))
  have HG := Aside0.mk (hG.below HB.out)
  clear hG
  have fin : ∀ {w1 : World}, Below (w.alloc (.cells #[.int .i64 cmd, .int .i64 kind, .int .i64 who, .int .i64 code, .int .i64 c0, v5, v6, .int .i64 c3, .int .u64 c4, .int .i64 c5, v10] 32)).heap.size (w.alloc (.cells #[.int .i64 cmd, .int .i64 kind, .int .i64 who, .int .i64 code, .int .i64 c0, v5, v6, .int .i64 c3, .int .u64 c4, .int .i64 c5, v10] 32)) w1 → Below w.heap.size w w1 := fun hb => below_then HB.out (by simp) hb
  have HF := Aside0.mk @fin
  clear fin
  unfold headW
  by_cases c1 : kind = 1
  · rw [if_pos c1]
    have d1 : (kind == 1) = true := by simpa using c1
    have hl := Lib.itoa_length_le who h0 h1
    have e1 : (9223372036854775807 < 1 + (Lib.itoa who).length) = False := eq_false (by omega)
    clear c1
    go_enter Tryd.func23, Tryd.ntmps23
    go_wp2_with (first | (go_at_call 22; go_must (refine (itoa_calls who h0 h1 _ HG.out.tab).mono ?_; rintro e w1 ⟨rfl, hb⟩)))
    go_ret
    refine ⟨str_eq ?_, HF.out hb⟩
    show (⟨[64].toArray⟩ : ByteArray) ++ ⟨_⟩ = _
    rw [app_str]
    rfl
  rw [if_neg c1]
  have d1 : (kind == 1) = false := by simpa using c1
  by_cases c2 : kind < 0
  · rw [if_pos (Or.inl c2)]
    clear c1
    go_enter Tryd.func23, Tryd.ntmps23
    go_wp2
    go_ret
    exact ⟨rfl, HB.out⟩
  by_cases c3 : 13 ≤ kind
  · rw [if_pos (Or.inr c3)]
    clear c1
    go_enter Tryd.func23, Tryd.ntmps23
    go_wp2
    go_ret
    exact ⟨rfl, HB.out⟩
  rw [if_neg (by omega)]
  have hc := HG.out.heads _ _ (headL_at kind (by omega) (by omega))
  have hk : kind.toNat < 13 := by omega
  obtain ⟨n, rfl⟩ : ∃ n : Nat, kind = n := ⟨kind.toNat, by omega⟩
  simp only [Int.toNat_natCast] at hc hk ⊢
  obtain ⟨H, hH⟩ : ∃ H, H = headL.getD n [] := ⟨_, rfl⟩
  rw [← hH] at hc ⊢
  clear hH
  by_cases c4 : H = []
  · subst c4
    rw [if_pos rfl]
    clear c1
    go_enter Tryd.func23, Tryd.ntmps23
    go_wp2
    go_ret
    exact ⟨rfl, HB.out⟩
  · rw [if_neg c4]
    have d4 : H.isEmpty = false := by
      cases H with
      | nil => exact absurd rfl c4
      | cons a b => rfl
    clear c1
    go_enter Tryd.func23, Tryd.ntmps23
    go_wp2
    go_ret
    exact ⟨rfl, HB.out⟩
theorem bd_below {T e : TypeId} {B b : Nat} {bs : List Value} {W W' : World} (h : Lib.IsBuilderF T e B b bs W) (hb : Below W.heap.size W W') : Lib.IsBuilderF T e B b bs W' := by
  have one : ∀ p, Lib.BuilderAtF T e B b p bs W → Lib.BuilderAtF T e B b p bs W' := by
    intro p hp
    have hk := hb.block b hp.lt
    have hg : W.grownBy W' none := ⟨hb.os, hb.tape, hb.output, hb.size, fun k hk _ => hb.block k hk⟩
    cases hp with
    | intro h1 h2 =>
      obtain ⟨v, hv, hown, hne⟩ := h2
      exact ⟨h1, v, hk.trans hv, hown.kept hg (Classical.em _), hne⟩
  rcases h with h | h
  · exact Or.inl (one _ h)
  · exact Or.inr (one _ h)
/-- The builder of one print: it lies at b, holds l, and what lay in W0 lies. -/
structure PS (W0 : World) (b : Nat) (l : List UInt8) (w : World) : Prop where
  bd : Bd W0.heap.size b l w
  be : Below W0.heap.size W0 w
structure PO (W0 : World) (b : Nat) (l : List UInt8) (w w' : World) : Prop where
  ps : PS W0 b l w'
  ot : Lib.OthersKept 5 (some b) w w'
theorem PS.below {W0 w w1 : World} {b : Nat} {l : List UInt8} (h : PS W0 b l w) (hb : Below w.heap.size w w1) : PS W0 b l w1 :=
  ⟨bd_below h.bd hb, below_step h.be hb⟩
theorem ot_below {w w1 : World} {b : Option Nat} {e : TypeId} (hb : Below w.heap.size w w1) : Lib.OthersKept e b w w1 := fun k o hk _ _ =>
  (hb.block k (Array.getElem?_eq_some_iff.1 hk).1).trans hk
theorem PO.below {W0 w w1 w2 : World} {b : Nat} {l : List UInt8} (h : PO W0 b l w w1) (hb : Below w1.heap.size w1 w2) : PO W0 b l w w2 :=
  ⟨h.ps.below hb, h.ot.trans (ot_below hb)⟩
theorem PO.start {W0 w : World} {b : Nat} {l : List UInt8} (h : PS W0 b l w) : PO W0 b l w w := ⟨h, Lib.OthersKept.refl _ _ _⟩
theorem PO.next {W0 w w1 w2 : World} {b : Nat} {l l2 : List UInt8} (h : PO W0 b l w w1) (k : PO W0 b l2 w1 w2) : PO W0 b l2 w w2 := ⟨k.ps, h.ot.trans k.ot⟩
theorem PO.str {W0 w w1 : World} {b : Nat} {l : List UInt8} (h : PO W0 b l w w1) (s : ByteArray) (hlen : l.length + s.size ≤ 140737488355328) :
    Calls Tryd.prog 21 #[.pointer (some ⟨b, 0, none⟩), .string s] w1 fun e w' => e = .returned (.tuple #[.int .i64 s.size, .nilIface]) ∧ PO W0 b (l ++ s.data.toList) w w' :=
  (wstr_calls W0.heap.size b l s w1 h.ps.bd hlen h.ps.be.size).mono (by
    rintro e w' ⟨rfl, h1, h2, h3⟩
    exact ⟨rfl, ⟨h1, h.ps.be.trans h2⟩, h.ot.trans h3⟩)
theorem PO.byte {W0 w w1 : World} {b : Nat} {l : List UInt8} (h : PO W0 b l w w1) (c : UInt8) (hlen : l.length + 1 ≤ 140737488355328) :
    Calls Tryd.prog 26 #[.pointer (some ⟨b, 0, none⟩), .int .u8 (c.toNat : Int)] w1 fun e w' => e = .returned .nilIface ∧ PO W0 b (l ++ [c]) w w' :=
  (wbyte_calls W0.heap.size b l c w1 h.ps.bd hlen h.ps.be.size).mono (by
    rintro e w' ⟨rfl, h1, h2, h3⟩
    exact ⟨rfl, ⟨h1, h.ps.be.trans h2⟩, h.ot.trans h3⟩)
def joinL {α : Type} (f : α → List UInt8) : List α → List UInt8
  | [] => []
  | x :: r => f x ++ r.flatMap (fun y => 44 :: 32 :: f y)
def lineL {α : Type} (lead : List UInt8) (f : α → List UInt8) (l : List α) : List UInt8 := lead ++ joinL f l ++ [10]
theorem joinL_app {α : Type} (f : α → List UInt8) (a b : List α) : ∃ t, joinL f (a ++ b) = joinL f a ++ t := by
  cases a with
  | nil => exact ⟨_, rfl⟩
  | cons x r => exact ⟨b.flatMap (fun y => 44 :: 32 :: f y), by simp [joinL]⟩
theorem joinL_len {α : Type} (f : α → List UInt8) (l : List α) (k : Nat) : (joinL f (l.take k)).length ≤ (joinL f l).length := by
  obtain ⟨t, ht⟩ := joinL_app f (l.take k) (l.drop k)
  rw [List.take_append_drop] at ht
  rw [ht, List.length_append]
  omega
theorem joinL_one {α : Type} (f : α → List UInt8) (l : List α) (k : Nat) (hk : k < l.length) (x : α) (hx : l[k] = x) :
    joinL f (l.take (k + 1)) = joinL f (l.take k) ++ (if 0 < k then [44, 32] else []) ++ f x := by
  rw [List.take_succ_eq_append_getElem hk, hx]
  by_cases h0 : 0 < k
  · rw [if_pos h0]
    cases hc : l.take k with
    | nil => have := congrArg List.length hc; rw [List.length_take, List.length_nil] at this; omega
    | cons y r => simp [joinL]
  · obtain rfl : k = 0 := by omega
    simp [joinL]
def rdL {α : Type} (z : α) (l : List α) (k : Nat) : α := l.getD k z
theorem str_lt {w : World} {A : Option Addr} {n : Nat} {xs : List ByteArray} (h : Kd.C Kd.string w A n xs) (k : Nat) (h1 : k < n) : ∃ ad, A = some ad ∧ w.cell? (ad.add k) = some (.string (xs.getD k ByteArray.empty)) := by
  obtain ⟨ad, c, e, _, hK, hc0⟩ := Kd.C_get h ByteArray.empty (k : Int) (by omega) (by omega)
  have hc := hc0 0
  obtain rfl : c = [.string (xs.getD k ByteArray.empty)] := hK
  refine ⟨ad, e, ?_⟩
  have := hc _ rfl
  rw [Int.toNat_natCast] at this
  rw [show k * Kd.string.sz + 0 = k from (Nat.add_zero _).trans (Nat.mul_one k)] at this
  exact this
set_option maxHeartbeats 2000000 in
set_option maxRecDepth 100000 in
theorem lineS_calls (W0 w : World) (b : Nat) (bl : List UInt8) (lead : ByteArray) (A : Option Addr) (c0 : Nat) (l : List ByteArray) (hA : Kd.C Kd.string W0 A l.length l) (hG : GP W0) (hS : PS W0 b bl w) (hl : l.length ≤ 1000000000) (hq : ∀ s ∈ l, s.size ≤ 1000000000)
    (hT : bl.length + (lineL lead.data.toList (fun s : ByteArray => quoteL s.data.toList) l).length ≤ 140737488355328) :
    Calls Tryd.prog 59 #[.pointer (some ⟨b, 0, none⟩), .string lead, .slice A l.length c0, .func (.func 60) #[] #[]] w fun e w' => e = .returned (.tuple #[]) ∧ PO W0 b (bl ++ lineL lead.data.toList (fun s : ByteArray => quoteL s.data.toList) l) w w' := by
  have HP := Aside0.mk (PO.start hS)
  have HA := Aside0.mk hA
  have HG := Aside0.mk hG
  have HL := Aside0.mk hl
  have HQ := Aside0.mk hq
  have hT' : bl.length + lead.size + (joinL (fun s : ByteArray => quoteL s.data.toList) l).length + 1 ≤ 140737488355328 := by
    simp only [lineL, List.length_append, List.length_cons, List.length_nil, Array.length_toList] at hT
    have : lead.data.size = lead.size := rfl
    omega
  have HT := Aside0.mk hT'
  clear hS hA hG hl hq hT hT'
  go_enter Tryd.func59, Tryd.ntmps59
  go_wp2_with (first | (go_at_call 21; go_must (refine (HP.out.str lead (by have := HT.out; omega)).mono ?_; rintro e w1 ⟨rfl, ho⟩; have HP1 := Aside0.mk ho; clear ho)))
  clear HP
  go_loopw [15] (fun v15 wr => ∃ (k : Nat), k ≤ l.length ∧ v15 = .int .i64 (k : Int) ∧ Aside0 (PO W0 b (bl ++ lead.data.toList ++ joinL (fun s : ByteArray => quoteL s.data.toList) (l.take k)) w wr)) (fun v15 _ => l.length - (intOf v15).toNat)
  case atStart =>
    exact ⟨0, Nat.zero_le _, rfl, ⟨by simpa [joinL] using HP1.out⟩⟩
  case round =>
    clear HP1
    obtain ⟨k, hk, rfl, HP⟩ := hrel
    have hk9 : k ≤ 1000000000 := Nat.le_trans hk HL.out
    have hlen : lead.data.toList.length = lead.size := by rw [Array.length_toList]; rfl
    by_cases hlt : k < l.length
    · have d1 : decide ((k : Int) < (l.length : Int)) = true := decide_eq_true (by omega)
      obtain ⟨ad, e1, h0⟩ := str_lt HA.out k hlt
      cases e1
      replace h0 := (HP.out.ps.be.cell (World.block_lt_of_cell? W0 _ h0)).trans h0
      have hx : l[k] = l.getD k ByteArray.empty := by simp [List.getD_eq_getElem?_getD, hlt]
      have HX := Aside0.mk (joinL_one (fun s : ByteArray => quoteL s.data.toList) l k hlt _ hx)
      have HM := Aside0.mk (hx ▸ HQ.out l[k] (List.getElem_mem hlt))
      have HN := Aside0.mk (joinL_len (fun s : ByteArray => quoteL s.data.toList) l (k + 1))
      generalize l.getD k ByteArray.empty = x at *
      clear hx
      by_cases k0 : 0 < k
      · have d0 : decide ((k : Int) > 0) = true := decide_eq_true (by omega)
        have HR := Aside0.mk (by rw [HX.out, if_pos k0, List.length_append, List.length_append] at HN; exact HN.out : (joinL (fun s : ByteArray => quoteL s.data.toList) (l.take k)).length + 2 + (quoteL x.data.toList).length ≤ (joinL (fun s : ByteArray => quoteL s.data.toList) l).length)
        go_wp2_with (first | (go_at_call 21; go_must (first | (refine (HP3.out.str (str (quoteL x.data.toList)) (by have h1 := HT.out; have h2 := HR.out; simp only [List.length_append, str_size, List.length_cons, List.length_nil]; omega)).mono ?_; rintro e w4 ⟨rfl, ho⟩; have HP4 := Aside0.mk ho; clear ho) | (refine (HP.out.str (⟨#[44, 32]⟩ : ByteArray) (by have h1 := HT.out; have h2 := HR.out; simp only [List.length_append]; show _ + 2 ≤ _; omega)).mono ?_; rintro e w2 ⟨rfl, ho⟩; have HP2 := Aside0.mk ho; clear ho))) | (go_at_call 60; go_must (refine (quoted_calls x _ HM.out (HG.out.below HP2.out.ps.be)).mono ?_; rintro e w3 ⟨rfl, hb⟩; have HP3 := Aside0.mk (HP2.out.below hb); clear hb)))
        go_roundw
        case rel =>
          refine ⟨k + 1, by omega, by go_num, ⟨?_⟩⟩
          rw [HX.out, if_pos k0]
          simpa [List.append_assoc, str] using HP4.out
        case measure => simp [intOf]; omega
      · have d0 : decide ((k : Int) > 0) = false := decide_eq_false (by omega)
        have HR := Aside0.mk (by rw [HX.out, if_neg k0, List.append_nil, List.length_append] at HN; exact HN.out : (joinL (fun s : ByteArray => quoteL s.data.toList) (l.take k)).length + (quoteL x.data.toList).length ≤ (joinL (fun s : ByteArray => quoteL s.data.toList) l).length)
        go_wp2_with (first | (go_at_call 21; go_must (refine (HP3.out.str (str (quoteL x.data.toList)) (by have h1 := HT.out; have h2 := HR.out; simp only [List.length_append, str_size]; omega)).mono ?_; rintro e w4 ⟨rfl, ho⟩; have HP4 := Aside0.mk ho; clear ho)) | (go_at_call 60; go_must (refine (quoted_calls x _ HM.out (HG.out.below HP.out.ps.be)).mono ?_; rintro e w3 ⟨rfl, hb⟩; have HP3 := Aside0.mk (HP.out.below hb); clear hb)))
        go_roundw
        case rel =>
          refine ⟨k + 1, by omega, by go_num, ⟨?_⟩⟩
          rw [HX.out, if_neg k0, List.append_nil]
          simpa [List.append_assoc, str] using HP4.out
        case measure => simp [intOf]; omega
    · have d1 : decide ((k : Int) < (l.length : Int)) = false := decide_eq_false (by omega)
      have HN := Aside0.mk (joinL_len (fun s : ByteArray => quoteL s.data.toList) l k)
      go_wp2_with (first | (go_at_call 26; go_must (refine (HP.out.byte 10 (by have h1 := HT.out; have h2 := HN.out; simp only [List.length_append]; omega)).mono ?_; rintro e w4 ⟨rfl, ho⟩; have HP4 := Aside0.mk ho; clear ho)))
      go_end0
      refine ⟨rfl, ?_⟩
      have e : l.take k = l := List.take_of_length_le (by omega)
      rw [e] at HP4
      simpa [lineL, List.append_assoc] using HP4.out
theorem rdT_lt (l : List S84) (k : Nat) (h : k < l.length) : rd_T84 l (k : Int) = l[k] := by
  simp [rd_T84, List.getD_eq_getElem?_getD, h]
theorem itoa_le (n : Int) (h : inI n) : (Lib.itoa n).length ≤ 21 := Lib.itoa_length_le n h.1 h.2
theorem valueL_len (x : S84) (h : okVal x) : (valueL x).length ≤ 3 * x.f2.size + 21 := by
  have h1 := itoa_le x.f1 h.1
  have h2 := quoteL_len x.f2
  unfold valueL
  split
  · omega
  · split
    · omega
    · split
      · split <;> (simp only [List.length_cons, List.length_nil]; omega)
      · simp only [List.length_cons, List.length_nil]; omega
theorem PS.lt {W0 w : World} {b : Nat} {l : List UInt8} (h : PS W0 b l w) : b < w.heap.size := by
  rcases h.bd with h | h
  · exact Lib.BuilderAtF.lt h
  · exact Lib.BuilderAtF.lt h
theorem PO.keeps {W0 w w1 : World} {b : Nat} {l : List UInt8} (h : PO W0 b l w w1) {g : Nat} {cs : Array Value} {t : TypeId} (hg : w.heap[g]? = some (.cells cs t (0, 0))) (hb : g ≠ b) (ht : t ≠ 5) : w1.heap[g]? = some (.cells cs t (0, 0)) :=
  h.ot g _ hg (fun e => hb (Option.some.inj e)) (fun c fz e => ht (by injection e))
set_option maxHeartbeats 2000000 in
set_option maxRecDepth 100000 in
theorem lineV_calls (W0 w : World) (b : Nat) (bl : List UInt8) (lead : ByteArray) (A : Option Addr) (c0 : Nat) (l : List S84) (hA : Kd.C k84 W0 A l.length l) (hG : GP W0) (hS : PS W0 b bl w) (hl : l.length ≤ 1000000000) (hq : ∀ s ∈ l, okVal s)
    (hT : bl.length + (lineL lead.data.toList valueL l).length ≤ 140737488355328) :
    Calls Tryd.prog 61 #[.pointer (some ⟨b, 0, none⟩), .string lead, .slice A l.length c0, .func (.func 62) #[] #[]] w fun e w' => e = .returned (.tuple #[]) ∧ PO W0 b (bl ++ lineL lead.data.toList valueL l) w w' := by
  have HP := Aside0.mk (PO.start hS)
  have HA := Aside0.mk hA
  have HG := Aside0.mk hG
  have HL := Aside0.mk hl
  have HQ := Aside0.mk hq
  have hT' : bl.length + lead.size + (joinL valueL l).length + 1 ≤ 140737488355328 := by
    simp only [lineL, List.length_append, List.length_cons, List.length_nil, Array.length_toList] at hT
    have : lead.data.size = lead.size := rfl
    omega
  have HT := Aside0.mk hT'
  clear hS hA hG hl hq hT hT'
  go_enter Tryd.func61, Tryd.ntmps61
  go_wp2_with (first | (go_at_call 21; go_must (refine (HP.out.str lead (by have := HT.out; omega)).mono ?_; rintro e w1 ⟨rfl, ho⟩; have HP1 := Aside0.mk ho; clear ho)))
  clear HP
  go_loopw [15] (fun v15 wr => ∃ (k : Nat), k ≤ l.length ∧ v15 = .int .i64 (k : Int) ∧ Aside0 (PO W0 b (bl ++ lead.data.toList ++ joinL valueL (l.take k)) w wr)) (fun v15 _ => l.length - (intOf v15).toNat)
  case atStart =>
    exact ⟨0, Nat.zero_le _, rfl, ⟨by simpa [joinL] using HP1.out⟩⟩
  case round =>
    clear HP1
    obtain ⟨k, hk, rfl, HP⟩ := hrel
    have hk9 : k ≤ 1000000000 := Nat.le_trans hk HL.out
    have hlen : lead.data.toList.length = lead.size := by rw [Array.length_toList]; rfl
    by_cases hlt : k < l.length
    · have d1 : decide ((k : Int) < (l.length : Int)) = true := decide_eq_true (by omega)
      obtain ⟨ad, e1, h0, h1, h2⟩ := at_T84 HA.out (k : Int) (by omega) (by omega)
      cases e1
      simp only [Int.toNat_natCast] at h0 h1 h2
      have HX := Aside0.mk (joinL_one valueL l k hlt _ (rdT_lt l k hlt).symm)
      have HM := Aside0.mk (rdT_lt l k hlt ▸ HQ.out l[k] (List.getElem_mem hlt))
      have HN := Aside0.mk (joinL_len valueL l (k + 1))
      generalize rd_T84 l (k : Int) = x at *
      replace h0 := (HP.out.ps.be.cell (World.block_lt_of_cell? W0 _ h0)).trans h0
      replace h1 := (HP.out.ps.be.cell (World.block_lt_of_cell? W0 _ h1)).trans h1
      replace h2 := (HP.out.ps.be.cell (World.block_lt_of_cell? W0 _ h2)).trans h2
      have HQ1 := Aside0.mk (HP.out.below (below_alloc (Below.refl wr.heap.size wr) (.cells #[.int .i64 x.f0, .int .i64 x.f1, .string x.f2] 84)))
      by_cases k0 : 0 < k
      · have d0 : decide ((k : Int) > 0) = true := decide_eq_true (by omega)
        have HR := Aside0.mk (by rw [HX.out, if_pos k0, List.length_append, List.length_append] at HN; exact HN.out : (joinL valueL (l.take k)).length + 2 + (valueL x).length ≤ (joinL valueL l).length)
        go_wp2_with (first | (go_at_call 21; go_must (first | (refine (HP3.out.str (str (valueL x)) (by have h1 := HT.out; have h2 := HR.out; simp only [List.length_append, str_size, List.length_cons, List.length_nil]; omega)).mono ?_; rintro e w4 ⟨rfl, ho⟩; have HP4 := Aside0.mk ho; clear ho) | (refine ((PO.start HQ1.out.ps).str (⟨#[44, 32]⟩ : ByteArray) (by have h1 := HT.out; have h2 := HR.out; simp only [List.length_append]; show _ + 2 ≤ _; omega)).mono ?_; rintro e w2 ⟨rfl, ho⟩; have HP2 := Aside0.mk (HQ1.out.next ho); have hk2 := ho.keeps (blk_new wr _) (Nat.ne_of_gt HP.out.ps.lt) (by decide); clear ho; have hz0 := (blk_cell hk2 0).trans rfl; have hz1 := (blk_cell hk2 1).trans rfl; have hz2 := (blk_cell hk2 2).trans rfl; clear hk2))) | (go_at_call 62; go_must (refine (value_calls x _ HM.out (HG.out.below HP2.out.ps.be)).mono ?_; rintro e w3 ⟨rfl, hb⟩; have HP3 := Aside0.mk (HP2.out.below hb); clear hb)))
        go_roundw
        case rel =>
          refine ⟨k + 1, by omega, by go_num, ⟨?_⟩⟩
          rw [HX.out, if_pos k0]
          simpa [List.append_assoc, str] using HP4.out
        case measure => simp [intOf]; omega
      · have d0 : decide ((k : Int) > 0) = false := decide_eq_false (by omega)
        have HR := Aside0.mk (by rw [HX.out, if_neg k0, List.append_nil, List.length_append] at HN; exact HN.out : (joinL valueL (l.take k)).length + (valueL x).length ≤ (joinL valueL l).length)
        go_wp2_with (first | (go_at_call 21; go_must (refine (HP3.out.str (str (valueL x)) (by have h1 := HT.out; have h2 := HR.out; simp only [List.length_append, str_size]; omega)).mono ?_; rintro e w4 ⟨rfl, ho⟩; have HP4 := Aside0.mk ho; clear ho)) | (go_at_call 62; go_must (refine (value_calls x _ HM.out (HG.out.below HQ1.out.ps.be)).mono ?_; rintro e w3 ⟨rfl, hb⟩; have HP3 := Aside0.mk (HQ1.out.below hb); clear hb)))
        go_roundw
        case rel =>
          refine ⟨k + 1, by omega, by go_num, ⟨?_⟩⟩
          rw [HX.out, if_neg k0, List.append_nil]
          simpa [List.append_assoc, str] using HP4.out
        case measure => simp [intOf]; omega
    · have d1 : decide ((k : Int) < (l.length : Int)) = false := decide_eq_false (by omega)
      have HN := Aside0.mk (joinL_len valueL l k)
      go_wp2_with (first | (go_at_call 26; go_must (refine (HP.out.byte 10 (by have h1 := HT.out; have h2 := HN.out; simp only [List.length_append]; omega)).mono ?_; rintro e w4 ⟨rfl, ho⟩; have HP4 := Aside0.mk ho; clear ho)))
      go_end0
      refine ⟨rfl, ?_⟩
      have e : l.take k = l := List.take_of_length_le (by omega)
      rw [e] at HP4
      simpa [lineL, List.append_assoc] using HP4.out
def cntL (n : Int) : List UInt8 := if n = 0 then [] else [32, 99, 111, 117, 110, 116, 32] ++ Lib.itoa n
def stpL (u : Nat) : List UInt8 := if u = 0 then [] else [32, 115, 116, 97, 109, 112, 32] ++ Lib.decDigits u
def endL (e : Int) : List UInt8 := if e = 1 then [32, 99, 111, 109, 109, 105, 116] else if e = 2 then [32, 97, 98, 111, 114, 116] else []
def tabL (rs : List (List S84)) : List UInt8 := rs.flatMap (lineL [32, 32] valueL)
def namesL (ns : List ByteArray) : List UInt8 := lineL [124, 32] (fun s : ByteArray => quoteL s.data.toList) ns
def resL (cn : Int) (st : Nat) (en : Int) (ns : List ByteArray) (rs : List (List S84)) : List UInt8 :=
  cntL cn ++ stpL st ++ endL en ++ [10] ++ (if ns = [] then [] else namesL ns ++ tabL rs)
structure okRes (cn : Int) (st : Nat) (ns : List ByteArray) (rs : List (List S84)) : Prop where
  cn : inI cn
  st : st < 18446744073709551616
  nl : ns.length ≤ 1000000000
  nq : ∀ s ∈ ns, s.size ≤ 1000000000
  rl : rs.length ≤ 1000000000
  rq : ∀ r ∈ rs, r.length ≤ 1000000000 ∧ ∀ v ∈ r, okVal v
theorem tab_take (rs : List (List S84)) (k : Nat) (hk : k < rs.length) (r : List S84) (hr : rs[k] = r) : tabL (rs.take (k + 1)) = tabL (rs.take k) ++ lineL [32, 32] valueL r := by
  rw [List.take_succ_eq_append_getElem hk, hr]
  simp [tabL]
theorem tab_len (rs : List (List S84)) (k : Nat) : (tabL (rs.take k)).length ≤ (tabL rs).length := by
  have h : tabL rs = tabL (rs.take k) ++ tabL (rs.drop k) := by
    conv => lhs; rw [← List.take_append_drop k rs]
    exact List.flatMap_append ..
  rw [h, List.length_append]
  omega
theorem rdL_lt (l : List (List S84)) (k : Nat) (h : k < l.length) : rd_L4 l (k : Int) = l[k] := by
  simp [rd_L4, List.getD_eq_getElem?_getD, h]
theorem app_data (l m : List UInt8) : ((⟨l.toArray⟩ : ByteArray) ++ (⟨m.toArray⟩ : ByteArray)).data.toList = l ++ m := by
  rw [app_str]
theorem app_size (l m : List UInt8) : ((⟨l.toArray⟩ : ByteArray) ++ (⟨m.toArray⟩ : ByteArray)).size = l.length + m.length := by
  rw [app_str, str_size, List.length_append]
set_option maxHeartbeats 4000000 in
set_option maxRecDepth 100000 in
theorem res_calls (W0 w : World) (b : Nat) (bl : List UInt8) (c cn en : Int) (st : Nat) (A1 : Option Addr) (c1 : Nat) (ns : List ByteArray) (A2 : Option Addr) (c2 : Nat) (rs : List (List S84))
    (h1 : Kd.C Kd.string W0 A1 ns.length ns) (h2 : Kd.C (Kd.slice 84 k84) W0 A2 rs.length rs) (hG : GP W0) (hS : PS W0 b bl w) (hO : okRes cn st ns rs)
    (hT : bl.length + (resL cn st en ns rs).length ≤ 140737488355328) :
    Calls Tryd.prog 25 #[.pointer (some ⟨b, 0, none⟩), .agg #[.int .i64 c, .slice A1 ns.length c1, .slice A2 rs.length c2, .int .i64 cn, .int .u64 (st : Int), .int .i64 en]] w fun e w' => e = .returned (.tuple #[]) ∧ PO W0 b (bl ++ resL cn st en ns rs) w w' := by
  have HNE := Aside0.mk (Nat.ne_of_gt hS.lt)
  have HP0 := Aside0.mk ((PO.start hS).below (below_alloc (Below.refl w.heap.size w) (.cells #[.int .i64 c, .slice A1 ns.length c1, .slice A2 rs.length c2, .int .i64 cn, .int .u64 (st : Int), .int .i64 en] 29)))
  have HP := Aside0.mk (PO.start HP0.out.ps)
  have BK := Aside0.mk (blk_new w (.cells #[.int .i64 c, .slice A1 ns.length c1, .slice A2 rs.length c2, .int .i64 cn, .int .u64 (st : Int), .int .i64 en] 29))
  have H1 := Aside0.mk h1
  have H2 := Aside0.mk h2
  have HG := Aside0.mk hG
  have HO := Aside0.mk hO
  have hT' : bl.length + (cntL cn).length + (stpL st).length + (endL en).length + 1 + (if ns = [] then [] else namesL ns ++ tabL rs).length ≤ 140737488355328 := by
    simp only [resL, List.length_append, List.length_cons, List.length_nil] at hT
    omega
  have HT := Aside0.mk hT'
  clear hS h1 h2 hG hO hT hT'
  go_enter Tryd.func25, Tryd.ntmps25
  go_upto_if 8 with (fail)
  go_cut [] (fun wc => Aside0 (PO W0 b (bl ++ cntL cn) (w.alloc (.cells #[.int .i64 c, .slice A1 ns.length c1, .slice A2 rs.length c2, .int .i64 cn, .int .u64 (st : Int), .int .i64 en] 29)) wc))
  case first =>
    by_cases e0 : cn = 0
    · have d0 : (cn != 0) = false := bne_eq_false_iff_eq.mpr e0
      have e1 : Aside0 (cntL cn = []) := ⟨if_pos e0⟩
      clear e0
      rw [d0]
      go_wp2
      go_meet
      case rel => exact ⟨by rw [e1.out, List.append_nil]; exact HP.out⟩
    · have d0 : (cn != 0) = true := bne_iff_ne.mpr e0
      have e1 : Aside0 (cntL cn = [32, 99, 111, 117, 110, 116, 32] ++ Lib.itoa cn) := ⟨if_neg e0⟩
      clear e0
      rw [d0]
      have hl := itoa_le cn HO.out.cn
      have f1 : (9223372036854775807 < 7 + (Lib.itoa cn).length) = False := eq_false (by omega)
      clear hl
      go_wp2_with (first | (go_at_call 22; go_must (refine (itoa_calls cn HO.out.cn.1 HO.out.cn.2 _ (HG.out.below HP.out.ps.be).tab).mono ?_; rintro e w1 ⟨rfl, hb⟩; have HP1 := Aside0.mk (HP.out.below hb); clear hb)) | (go_at_call 21; go_must (refine (HP1.out.str ((⟨#[32, 99, 111, 117, 110, 116, 32]⟩ : ByteArray) ++ (⟨(Lib.itoa cn).toArray⟩ : ByteArray)) (by have h1 := app_size [32, 99, 111, 117, 110, 116, 32] (Lib.itoa cn); have h2 := e1.out ▸ HT.out; rw [List.length_append] at h2; rw [h1]; omega)).mono ?_; rintro e w2 ⟨rfl, ho⟩; have HP2 := Aside0.mk ho; clear ho)))
      go_meet
      case rel =>
        have h1 := app_data [32, 99, 111, 117, 110, 116, 32] (Lib.itoa cn)
        rw [← e1.out] at h1
        exact ⟨h1 ▸ HP2.out⟩
  case rest =>
    clear HP
    have HP := hcut; clear hcut
    have hk := HP.out.keeps BK.out HNE.out (by decide)
    have hz1 : wc.cell? ⟨w.heap.size, 1, none⟩ = some (.slice A1 ns.length c1) := (blk_cell hk 1).trans rfl
    have hz2 : wc.cell? ⟨w.heap.size, 2, none⟩ = some (.slice A2 rs.length c2) := (blk_cell hk 2).trans rfl
    have hz3 : wc.cell? ⟨w.heap.size, 3, none⟩ = some (.int .i64 cn) := (blk_cell hk 3).trans rfl
    have hz4 : wc.cell? ⟨w.heap.size, 4, none⟩ = some (.int .u64 (st : Int)) := (blk_cell hk 4).trans rfl
    have hz5 : wc.cell? ⟨w.heap.size, 5, none⟩ = some (.int .i64 en) := (blk_cell hk 5).trans rfl
    clear hk
    go_upto_if 17 with (fail)
    go_cut [] (fun wc => Aside0 (PO W0 b (bl ++ cntL cn ++ stpL st) (w.alloc (.cells #[.int .i64 c, .slice A1 ns.length c1, .slice A2 rs.length c2, .int .i64 cn, .int .u64 (st : Int), .int .i64 en] 29)) wc))
    case first =>
      by_cases e0 : st = 0
      · have d0 : (((st : Int)) != 0) = false := bne_eq_false_iff_eq.mpr (by omega)
        have e1 : Aside0 (stpL st = []) := ⟨if_pos e0⟩
        clear e0
        rw [d0]
        go_wp2
        go_meet
        case rel => exact ⟨by rw [e1.out, List.append_nil]; exact HP.out⟩
      · have d0 : (((st : Int)) != 0) = true := bne_iff_ne.mpr (by omega)
        have e1 : Aside0 (stpL st = [32, 115, 116, 97, 109, 112, 32] ++ Lib.decDigits st) := ⟨if_neg e0⟩
        clear e0
        rw [d0]
        have hl : (Lib.decDigits st).length ≤ 20 := by rw [Lib.decDigits_length]; exact Lib.nDigits_le20 st HO.out.st
        have f1 : (9223372036854775807 < 7 + (Lib.decDigits st).length) = False := eq_false (by omega)
        clear hl
        go_wp2_with (first | (go_at_call 58; go_must (refine (fmtU_calls st HO.out.st _ (HG.out.below HP.out.ps.be).tab).mono ?_; rintro e w1 ⟨rfl, hb⟩; have HP1 := Aside0.mk (HP.out.below hb); clear hb)) | (go_at_call 21; go_must (refine (HP1.out.str ((⟨#[32, 115, 116, 97, 109, 112, 32]⟩ : ByteArray) ++ (⟨(Lib.decDigits st).toArray⟩ : ByteArray)) (by have h1 := app_size [32, 115, 116, 97, 109, 112, 32] (Lib.decDigits st); have h2 := e1.out ▸ HT.out; rw [List.length_append] at h2; rw [h1, List.length_append]; omega)).mono ?_; rintro e w2 ⟨rfl, ho⟩; have HP2 := Aside0.mk ho; clear ho)))
        go_meet
        case rel =>
          have h1 := app_data [32, 115, 116, 97, 109, 112, 32] (Lib.decDigits st)
          rw [← e1.out] at h1
          exact ⟨h1 ▸ HP2.out⟩
    case rest =>
      clear HP
      clear hz1 hz2 hz3 hz4 hz5
      have HP := hcut; clear hcut
      have hk := HP.out.keeps BK.out HNE.out (by decide)
      have hz1 : wc.cell? ⟨w.heap.size, 1, none⟩ = some (.slice A1 ns.length c1) := (blk_cell hk 1).trans rfl
      have hz2 : wc.cell? ⟨w.heap.size, 2, none⟩ = some (.slice A2 rs.length c2) := (blk_cell hk 2).trans rfl
      have hz3 : wc.cell? ⟨w.heap.size, 3, none⟩ = some (.int .i64 cn) := (blk_cell hk 3).trans rfl
      have hz4 : wc.cell? ⟨w.heap.size, 4, none⟩ = some (.int .u64 (st : Int)) := (blk_cell hk 4).trans rfl
      have hz5 : wc.cell? ⟨w.heap.size, 5, none⟩ = some (.int .i64 en) := (blk_cell hk 5).trans rfl
      clear hk
      go_upto_block 0 with (fail)
      go_cut [] (fun wc => Aside0 (PO W0 b (bl ++ cntL cn ++ stpL st ++ endL en) (w.alloc (.cells #[.int .i64 c, .slice A1 ns.length c1, .slice A2 rs.length c2, .int .i64 cn, .int .u64 (st : Int), .int .i64 en] 29)) wc))
      case first =>
        go_upto_if 26 with (fail)
        by_cases c1 : en = 1
        · have d1 : (en == 1) = true := by simpa using c1
          have e1 : Aside0 (endL en = [32, 99, 111, 109, 109, 105, 116]) := ⟨if_pos c1⟩
          clear c1
          rw [d1]
          go_wp2_with (first | (go_at_call 21; go_must (refine (HP.out.str (⟨#[32, 99, 111, 109, 109, 105, 116]⟩ : ByteArray) (by have h2 := e1.out ▸ HT.out; simp only [List.length_append]; show _ + 7 ≤ _; simp only [List.length_cons, List.length_nil] at h2; omega)).mono ?_; rintro e w2 ⟨rfl, ho⟩; have HP2 := Aside0.mk ho; clear ho)))
          go_meet
          case rel => exact ⟨e1.out ▸ HP2.out⟩
        · have d1 : (en == 1) = false := by simpa using c1
          rw [d1]
          by_cases c2 : en = 2
          · have d2 : (en == 2) = true := by simpa using c2
            have e1 : Aside0 (endL en = [32, 97, 98, 111, 114, 116]) := ⟨(if_neg c1).trans (if_pos c2)⟩
            clear c1 c2
            go_wp2_with (first | (go_at_call 21; go_must (refine (HP.out.str (⟨#[32, 97, 98, 111, 114, 116]⟩ : ByteArray) (by have h2 := e1.out ▸ HT.out; simp only [List.length_append]; show _ + 6 ≤ _; simp only [List.length_cons, List.length_nil] at h2; omega)).mono ?_; rintro e w2 ⟨rfl, ho⟩; have HP2 := Aside0.mk ho; clear ho)))
            go_meet
            case rel => exact ⟨e1.out ▸ HP2.out⟩
          · have d2 : (en == 2) = false := by simpa using c2
            have e1 : Aside0 (endL en = []) := ⟨(if_neg c1).trans (if_neg c2)⟩
            clear c1 c2
            go_wp2
            go_meet
            case rel => exact ⟨by rw [e1.out, List.append_nil]; exact HP.out⟩
      case rest =>
        clear HP
        clear hz1 hz2 hz3 hz4 hz5
        have HP := hcut; clear hcut
        have hk := HP.out.keeps BK.out HNE.out (by decide)
        have hz1 : wc.cell? ⟨w.heap.size, 1, none⟩ = some (.slice A1 ns.length c1) := (blk_cell hk 1).trans rfl
        have hz2 : wc.cell? ⟨w.heap.size, 2, none⟩ = some (.slice A2 rs.length c2) := (blk_cell hk 2).trans rfl
        have hz3 : wc.cell? ⟨w.heap.size, 3, none⟩ = some (.int .i64 cn) := (blk_cell hk 3).trans rfl
        have hz4 : wc.cell? ⟨w.heap.size, 4, none⟩ = some (.int .u64 (st : Int)) := (blk_cell hk 4).trans rfl
        have hz5 : wc.cell? ⟨w.heap.size, 5, none⟩ = some (.int .i64 en) := (blk_cell hk 5).trans rfl
        clear hk
        by_cases c0 : ns = []
        · have d0 : ((ns.length : Int) == 0) = true := by rw [c0]; rfl
          have e1 : Aside0 ((if ns = [] then [] else namesL ns ++ tabL rs) = []) := ⟨if_pos c0⟩
          clear c0
          go_wp2_with (first | (go_at_call 26; go_must (refine (HP.out.byte 10 (by have h2 := HT.out; simp only [List.length_append]; omega)).mono ?_; rintro e w2 ⟨rfl, ho⟩; have HP2 := Aside0.mk ho; clear ho; have hk := HP2.out.keeps BK.out HNE.out (by decide); have hy1 : w2.cell? ⟨w.heap.size, 1, none⟩ = some (.slice A1 ns.length c1) := (blk_cell hk 1).trans rfl; clear hk)))
          refine bodyPost_ret (results_none rfl _ _ _) rfl ?_
          refine ⟨rfl, ?_⟩
          have h3 := HP0.out.next HP2.out
          have e2 : resL cn st en ns rs = cntL cn ++ stpL st ++ endL en ++ [10] := by unfold resL; rw [e1.out, List.append_nil]
          rw [e2]
          simpa [List.append_assoc] using h3
        · have d0 : ((ns.length : Int) == 0) = false := by
            apply beq_false_of_ne
            intro he
            exact c0 (List.length_eq_zero_iff.1 (by omega))
          have e1 : Aside0 ((if ns = [] then [] else namesL ns ++ tabL rs) = namesL ns ++ tabL rs) := ⟨if_neg c0⟩
          clear c0
          have HT2 : Aside0 (bl.length + (cntL cn).length + (stpL st).length + (endL en).length + 1 + ((namesL ns).length + (tabL rs).length) ≤ 140737488355328) := ⟨by have h2 := HT.out; rw [e1.out, List.length_append] at h2; exact h2⟩
          go_wp2_with (first | (go_at_call 26; go_must (refine (HP.out.byte 10 (by have h2 := HT.out; simp only [List.length_append]; omega)).mono ?_; rintro e w2 ⟨rfl, ho⟩; have HP2 := Aside0.mk ho; clear ho; have hk := HP2.out.keeps BK.out HNE.out (by decide); have hy1 : w2.cell? ⟨w.heap.size, 1, none⟩ = some (.slice A1 ns.length c1) := (blk_cell hk 1).trans rfl; clear hk)) | (go_at_call 59; go_must (refine (lineS_calls W0 _ b _ (⟨#[124, 32]⟩ : ByteArray) A1 c1 ns H1.out HG.out HP2.out.ps HO.out.nl HO.out.nq (by have h2 := HT2.out; simp only [List.length_append, List.length_cons, List.length_nil] at *; show _ + (namesL ns).length ≤ _; omega)).mono ?_; rintro e w3 ⟨rfl, ho⟩; have HP3 := Aside0.mk (HP2.out.next ho); clear ho; have hk := HP3.out.keeps BK.out HNE.out (by decide); have hx2 : w3.cell? ⟨w.heap.size, 2, none⟩ = some (.slice A2 rs.length c2) := (blk_cell hk 2).trans rfl; clear hk)))
          clear HP HP2
          go_loopw [47] (fun v47 wr => ∃ (k : Nat), k ≤ rs.length ∧ v47 = .int .i64 (k : Int) ∧ Aside0 (PO W0 b (bl ++ cntL cn ++ stpL st ++ endL en ++ [10] ++ namesL ns ++ tabL (rs.take k)) (w.alloc (.cells #[.int .i64 c, .slice A1 ns.length c1, .slice A2 rs.length c2, .int .i64 cn, .int .u64 (st : Int), .int .i64 en] 29)) wr)) (fun v47 _ => rs.length - (intOf v47).toNat)
          case atStart =>
            exact ⟨0, Nat.zero_le _, rfl, ⟨by simpa [tabL, namesL] using HP3.out⟩⟩
          case round =>
            clear HP3 hx2 hy1 hz1 hz2 hz3 hz4 hz5
            obtain ⟨k, hk, rfl, HP⟩ := hrel
            have hk9 : k ≤ 1000000000 := Nat.le_trans hk HO.out.rl
            by_cases hlt : k < rs.length
            · have d1 : decide ((k : Int) < (rs.length : Int)) = true := decide_eq_true (by omega)
              obtain ⟨ad, A3, c3, e2, h0, h1, h2⟩ := at_L4 H2.out (k : Int) (by omega) (by omega)
              cases e2
              simp only [Int.toNat_natCast] at h0
              replace h0 := (HP.out.ps.be.cell (World.block_lt_of_cell? W0 _ h0)).trans h0
              have HX := Aside0.mk (tab_take rs k hlt _ (rdL_lt rs k hlt).symm)
              have HM := Aside0.mk (rdL_lt rs k hlt ▸ HO.out.rq rs[k] (List.getElem_mem hlt))
              have HN := Aside0.mk (tab_len rs (k + 1))
              generalize rd_L4 rs (k : Int) = x at *
              have HC := Aside0.mk h2
              clear h1 h2
              go_wp2_with (first | (go_at_call 61; go_must (refine (lineV_calls W0 _ b _ (⟨#[32, 32]⟩ : ByteArray) A3 c3 x HC.out HG.out HP.out.ps HM.out.1 HM.out.2 (by have h2 := HT2.out; have h3 := HN.out; rw [HX.out, List.length_append] at h3; simp only [List.length_append, List.length_cons, List.length_nil] at *; show _ + (lineL [32, 32] valueL x).length ≤ _; omega)).mono ?_; rintro e w3 ⟨rfl, ho⟩; have HP4 := Aside0.mk (HP.out.next ho); clear ho)))
              go_roundw
              case rel =>
                refine ⟨k + 1, by omega, by go_num, ⟨?_⟩⟩
                rw [HX.out]
                have h4 := HP4.out
                rw [List.append_assoc] at h4
                exact h4
              case measure => simp [intOf]; omega
            · have d1 : decide ((k : Int) < (rs.length : Int)) = false := decide_eq_false (by omega)
              go_wp2
              go_end0
              refine ⟨rfl, ?_⟩
              have e : rs.take k = rs := List.take_of_length_le (by omega)
              rw [e] at HP
              have h3 := HP0.out.next HP.out
              have e2 : resL cn st en ns rs = cntL cn ++ stpL st ++ endL en ++ [10] ++ (namesL ns ++ tabL rs) := by unfold resL; rw [e1.out]
              rw [e2]
              simpa [List.append_assoc] using h3
def numsL (ns : List Int) : List UInt8 := ns.flatMap (fun n => 32 :: Lib.itoa n)
def repHead (cmd kind who code : Int) : List UInt8 := Lib.itoa cmd ++ [32] ++ headW kind who ++ [32] ++ codeL code
def repL (x : S32) : List UInt8 := repHead x.f0 x.f1 x.f2 x.f3 ++ (if x.f1 = 1 then resL x.f4.f3 x.f4.f4.toNat x.f4.f5 x.f4.f1 x.f4.f2 else numsL x.f5 ++ [10])
def printL (rs : List S32) : List UInt8 := rs.flatMap repL
structure okRep (x : S32) : Prop where
  cmd : inI x.f0
  who : inI x.f2
  code : inI x.f3
  st0 : 0 ≤ x.f4.f4
  res : okRes x.f4.f3 x.f4.f4.toNat x.f4.f1 x.f4.f2
  nl : x.f5.length ≤ 1000000000
  nq : ∀ n ∈ x.f5, inI n
theorem print_take (rs : List S32) (k : Nat) (hk : k < rs.length) (r : S32) (hr : rs[k] = r) : printL (rs.take (k + 1)) = printL (rs.take k) ++ repL r := by
  rw [List.take_succ_eq_append_getElem hk, hr]
  simp [printL]
theorem print_len (rs : List S32) (k : Nat) : (printL (rs.take k)).length ≤ (printL rs).length := by
  have h : printL rs = printL (rs.take k) ++ printL (rs.drop k) := by
    conv => lhs; rw [← List.take_append_drop k rs]
    exact List.flatMap_append ..
  rw [h, List.length_append]
  omega
theorem nums_take (rs : List Int) (k : Nat) (hk : k < rs.length) (r : Int) (hr : rs[k] = r) : numsL (rs.take (k + 1)) = numsL (rs.take k) ++ (32 :: Lib.itoa r) := by
  rw [List.take_succ_eq_append_getElem hk, hr]
  simp [numsL]
theorem nums_len (rs : List Int) (k : Nat) : (numsL (rs.take k)).length ≤ (numsL rs).length := by
  have h : numsL rs = numsL (rs.take k) ++ numsL (rs.drop k) := by
    conv => lhs; rw [← List.take_append_drop k rs]
    exact List.flatMap_append ..
  rw [h, List.length_append]
  omega
theorem rdR_lt (l : List S32) (k : Nat) (h : k < l.length) : rd_T32 l (k : Int) = l[k] := by
  simp [rd_T32, List.getD_eq_getElem?_getD, h]
theorem rdI_lt (l : List Int) (k : Nat) (h : k < l.length) : rd l (k : Int) = l[k] := by
  simp [rd, List.getD_eq_getElem?_getD, h]
theorem int_lt {w : World} {A : Option Addr} {n : Nat} {xs : List Int} (h : Kd.C (Kd.int .i64) w A n xs) (k : Nat) (h1 : k < n) : ∃ ad, A = some ad ∧ w.cell? (ad.add k) = some (.int .i64 (rd xs (k : Int))) := by
  obtain ⟨ad, c, e, _, hK, hc0⟩ := Kd.C_get h (0 : Int) (k : Int) (by omega) (by omega)
  have hc := hc0 0
  obtain rfl : c = [.int .i64 (xs.getD k 0)] := hK
  refine ⟨ad, e, ?_⟩
  have := hc _ rfl
  rw [Int.toNat_natCast] at this
  rw [show k * (Kd.int .i64).sz + 0 = k from (Nat.add_zero _).trans (Nat.mul_one k)] at this
  exact this
theorem head_str (a b c : List UInt8) : (((((⟨a.toArray⟩ : ByteArray) ++ (⟨#[32]⟩ : ByteArray)) ++ str b) ++ (⟨#[32]⟩ : ByteArray)) ++ str c).data.toList = a ++ [32] ++ b ++ [32] ++ c := by
  simp
theorem head_size (a b c : List UInt8) : (((((⟨a.toArray⟩ : ByteArray) ++ (⟨#[32]⟩ : ByteArray)) ++ str b) ++ (⟨#[32]⟩ : ByteArray)) ++ str c).size = a.length + 1 + b.length + 1 + c.length := by
  show (((((⟨a.toArray⟩ : ByteArray) ++ (⟨#[32]⟩ : ByteArray)) ++ str b) ++ (⟨#[32]⟩ : ByteArray)) ++ str c).data.size = _
  rw [← Array.length_toList, head_str]
  simp
  omega
theorem codeL_len (c : Int) (h : inI c) : (codeL c).length ≤ 22 := by
  have := itoa_le c h
  unfold codeL
  split <;> simp only [List.length_cons, List.length_nil] <;> omega
theorem PO.drew {W0 w w1 : World} {b : Nat} {l : List UInt8} (h : PO W0 b l w w1) : PO W0 b l w w1.drew := h.below (below_drew1 (Below.refl _ _))
theorem string_calls (W0 w : World) (b : Nat) (l : List UInt8) (h : PS W0 b l w) :
    Calls Tryd.prog 27 #[.pointer (some ⟨b, 0, none⟩)] w fun e w' => e = .returned (.string (str l)) ∧ Below W0.heap.size W0 w' := by
  by_cases h0 : l = []
  · subst h0
    refine (Tryd.Builder_String_empty_f W0.heap.size b w h.bd h.be.size).mono ?_
    rintro e w' ⟨rfl, _, hb⟩
    exact ⟨rfl, h.be.trans hb⟩
  · refine (Tryd.Builder_String_f W0.heap.size b l w h.bd h0).mono ?_
    rintro e w' ⟨rfl, _, hb⟩
    exact ⟨rfl, h.be.trans hb⟩
set_option maxHeartbeats 8000000 in
set_option maxRecDepth 100000 in
theorem print_calls (w : World) (A : Option Addr) (c0 : Nat) (rs : List S32) (hA : Kd.C k32 w A rs.length rs) (hG : GP w) (hl : rs.length ≤ 1000000000) (hO : ∀ r ∈ rs, okRep r) (hT : (printL rs).length ≤ 140737488355328) :
    Calls Tryd.prog 8 #[.slice A rs.length c0] w fun e w' => e = .returned (.string (str (printL rs))) ∧ Below w.heap.size w w' := by
  have HP := Aside0.mk (show PS w w.heap.size [] (w.alloc (.cells #[.pointer none, .slice none 0 0] 68)) from ⟨Lib.IsBuilderF.of (Lib.fresh_isBuilder _ _ w), below_alloc (Below.refl _ _) _⟩)
  have HA := Aside0.mk hA
  have HG := Aside0.mk hG
  have HL := Aside0.mk hl
  have HO := Aside0.mk hO
  have HT := Aside0.mk hT
  clear hA hG hl hO hT
  go_enter Tryd.func8, Tryd.ntmps8
  go_wp2
  go_loopw [10] (fun v10 wr => ∃ (k : Nat), k ≤ rs.length ∧ v10 = .int .i64 (k : Int) ∧ Aside0 (PS w w.heap.size (printL (rs.take k)) wr)) (fun v10 _ => rs.length - (intOf v10).toNat)
  case atStart =>
    exact ⟨0, Nat.zero_le _, rfl, ⟨HP.out⟩⟩
  case round =>
    clear HP
    obtain ⟨k, hk, rfl, HP⟩ := hrel
    have hk9 : k ≤ 1000000000 := Nat.le_trans hk HL.out
    by_cases hlt : k < rs.length
    · have d1 : decide ((k : Int) < (rs.length : Int)) = true := decide_eq_true (by omega)
      obtain ⟨ad, A5, c5, A6, c6, A10, c10, e2, g0, g1, g2, g3, g4, g5, g6, g7, g8, g9, g10, l5, C5, l6, C6, l10, C10⟩ := at_T32 HA.out (k : Int) (by omega) (by omega)
      cases e2
      simp only [Int.toNat_natCast] at g0 g1 g2 g3 g4 g5 g6 g7 g8 g9 g10
      have HX := Aside0.mk (print_take rs k hlt _ (rdR_lt rs k hlt).symm)
      have HM := Aside0.mk (rdR_lt rs k hlt ▸ HO.out rs[k] (List.getElem_mem hlt))
      have HN := Aside0.mk (print_len rs (k + 1))
      generalize rd_T32 rs (k : Int) = x at *
      obtain ⟨cmd, kind, who, code, ⟨rc, ns, rws, cn, sti, en⟩, nums⟩ := x
      obtain ⟨st, rfl⟩ : ∃ st : Nat, sti = (st : Int) := ⟨sti.toNat, (Int.toNat_of_nonneg HM.out.st0).symm⟩
      dsimp only at g0 g1 g2 g3 g4 g5 g6 g7 g8 g9 g10 C5 C6 C10
      have HC5 := Aside0.mk C5
      have HC6 := Aside0.mk C6
      have HC10 := Aside0.mk C10
      clear l5 l6 l10 C5 C6 C10
      replace g0 := (HP.out.be.cell (World.block_lt_of_cell? w _ g0)).trans g0
      replace g1 := (HP.out.be.cell (World.block_lt_of_cell? w _ g1)).trans g1
      replace g2 := (HP.out.be.cell (World.block_lt_of_cell? w _ g2)).trans g2
      replace g3 := (HP.out.be.cell (World.block_lt_of_cell? w _ g3)).trans g3
      replace g4 := (HP.out.be.cell (World.block_lt_of_cell? w _ g4)).trans g4
      replace g5 := (HP.out.be.cell (World.block_lt_of_cell? w _ g5)).trans g5
      replace g6 := (HP.out.be.cell (World.block_lt_of_cell? w _ g6)).trans g6
      replace g7 := (HP.out.be.cell (World.block_lt_of_cell? w _ g7)).trans g7
      replace g8 := (HP.out.be.cell (World.block_lt_of_cell? w _ g8)).trans g8
      replace g9 := (HP.out.be.cell (World.block_lt_of_cell? w _ g9)).trans g9
      replace g10 := (HP.out.be.cell (World.block_lt_of_cell? w _ g10)).trans g10
      have hRL : repL ⟨cmd, kind, who, code, ⟨rc, ns, rws, cn, (st : Int), en⟩, nums⟩ = repHead cmd kind who code ++ (if kind = 1 then resL cn st en ns rws else numsL nums ++ [10]) := by simp only [repL, Int.toNat_natCast]
      have hb1 : (printL (rs.take k)).length + (repHead cmd kind who code).length + (if kind = 1 then resL cn st en ns rws else numsL nums ++ [10]).length ≤ 140737488355328 := by
        have h1 := HN.out
        have h2 := HT.out
        rw [HX.out, hRL, List.length_append, List.length_append] at h1
        omega
      have HR := Aside0.mk hRL
      have HB1 := Aside0.mk hb1
      have hi := itoa_le cmd HM.out.cmd
      have hh := headW_len kind who HM.out.who.1 HM.out.who.2
      have hc := codeL_len code HM.out.code
      have f1 : (9223372036854775807 < (Lib.itoa cmd).length + 1) = False := eq_false (by omega)
      have f2 : (9223372036854775807 < (Lib.itoa cmd).length + 1 + (headW kind who).length) = False := eq_false (by omega)
      have f3 : (9223372036854775807 < (Lib.itoa cmd).length + 1 + (headW kind who).length + 1) = False := eq_false (by omega)
      have f4 : (9223372036854775807 < (Lib.itoa cmd).length + 1 + (headW kind who).length + 1 + (codeL code).length) = False := eq_false (by omega)
      clear hRL hb1 hi hh hc
      have HNE := Aside0.mk (Nat.ne_of_gt HP.out.lt)
      have HPb := Aside0.mk ((PO.start HP.out).below (below_alloc (Below.refl wr.heap.size wr) (.cells #[.int .i64 cmd, .int .i64 kind, .int .i64 who, .int .i64 code, .int .i64 rc, .slice A5 ns.length c5, .slice A6 rws.length c6, .int .i64 cn, .int .u64 (st : Int), .int .i64 en, .slice A10 nums.length c10] 32)))
      have HP0 := Aside0.mk (PO.start HPb.out.ps)
      have BK := Aside0.mk (blk_new wr (.cells #[.int .i64 cmd, .int .i64 kind, .int .i64 who, .int .i64 code, .int .i64 rc, .slice A5 ns.length c5, .slice A6 rws.length c6, .int .i64 cn, .int .u64 (st : Int), .int .i64 en, .slice A10 nums.length c10] 32))
      go_upto_region 5 with (fail)
      generalize wr.alloc (.cells #[.int .i64 cmd, .int .i64 kind, .int .i64 who, .int .i64 code, .int .i64 rc, .slice A5 ns.length c5, .slice A6 rws.length c6, .int .i64 cn, .int .u64 (st : Int), .int .i64 en, .slice A10 nums.length c10] 32) = wb at *
      clear g0 g1 g2 g3 g4 g5 g6 g7 g8 g9 g10
      go_cut [] (fun wc => Aside0 (PO w w.heap.size (printL (rs.take k) ++ repHead cmd kind who code) wb wc))
      case first =>
        have hk := BK.out
        have s0_0 : wb.cell? ⟨wr.heap.size, 0, none⟩ = some (.int .i64 cmd) := (blk_cell hk 0).trans rfl
        have s0_1 : wb.cell? ⟨wr.heap.size, 1, none⟩ = some (.int .i64 kind) := (blk_cell hk 1).trans rfl
        have s0_2 : wb.cell? ⟨wr.heap.size, 2, none⟩ = some (.int .i64 who) := (blk_cell hk 2).trans rfl
        have s0_3 : wb.cell? ⟨wr.heap.size, 3, none⟩ = some (.int .i64 code) := (blk_cell hk 3).trans rfl
        have s0_4 : wb.cell? ⟨wr.heap.size, 4, none⟩ = some (.int .i64 rc) := (blk_cell hk 4).trans rfl
        have s0_5 : wb.cell? ⟨wr.heap.size, 5, none⟩ = some (.slice A5 ns.length c5) := (blk_cell hk 5).trans rfl
        have s0_6 : wb.cell? ⟨wr.heap.size, 6, none⟩ = some (.slice A6 rws.length c6) := (blk_cell hk 6).trans rfl
        have s0_7 : wb.cell? ⟨wr.heap.size, 7, none⟩ = some (.int .i64 cn) := (blk_cell hk 7).trans rfl
        have s0_8 : wb.cell? ⟨wr.heap.size, 8, none⟩ = some (.int .u64 (st : Int)) := (blk_cell hk 8).trans rfl
        have s0_9 : wb.cell? ⟨wr.heap.size, 9, none⟩ = some (.int .i64 en) := (blk_cell hk 9).trans rfl
        have s0_10 : wb.cell? ⟨wr.heap.size, 10, none⟩ = some (.slice A10 nums.length c10) := (blk_cell hk 10).trans rfl
        clear hk
        go_region_held3 (fun w' => w'.cell? ⟨wr.heap.size, 0, none⟩ = some (.int .i64 cmd) ∧ w'.cell? ⟨wr.heap.size, 1, none⟩ = some (.int .i64 kind) ∧ w'.cell? ⟨wr.heap.size, 2, none⟩ = some (.int .i64 who) ∧ w'.cell? ⟨wr.heap.size, 3, none⟩ = some (.int .i64 code) ∧ w'.cell? ⟨wr.heap.size, 4, none⟩ = some (.int .i64 rc) ∧ w'.cell? ⟨wr.heap.size, 5, none⟩ = some (.slice A5 ns.length c5) ∧ w'.cell? ⟨wr.heap.size, 6, none⟩ = some (.slice A6 rws.length c6) ∧ w'.cell? ⟨wr.heap.size, 7, none⟩ = some (.int .i64 cn) ∧ w'.cell? ⟨wr.heap.size, 8, none⟩ = some (.int .u64 (st : Int)) ∧ w'.cell? ⟨wr.heap.size, 9, none⟩ = some (.int .i64 en) ∧ w'.cell? ⟨wr.heap.size, 10, none⟩ = some (.slice A10 nums.length c10)) (go_keep) (first | (go_at_call 22; refine (itoa_calls cmd HM.out.cmd.1 HM.out.cmd.2 _ (HG.out.below (show Below w.heap.size w _ from (by first | exact HP0.out.ps.be | exact HP0.out.drew.ps.be | exact HP0.out.drew.drew.ps.be))).tab).mono ?_; rintro e w1 ⟨rfl, hb⟩; have HP1 : Aside0 (PO w w.heap.size (printL (rs.take k)) wb w1) := ⟨PO.below (by first | exact HP0.out | exact HP0.out.drew | exact HP0.out.drew.drew) hb⟩; have hk := HP1.out.keeps BK.out HNE.out (by decide); have s1_0 : w1.cell? ⟨wr.heap.size, 0, none⟩ = some (.int .i64 cmd) := (blk_cell hk 0).trans rfl; have s1_1 : w1.cell? ⟨wr.heap.size, 1, none⟩ = some (.int .i64 kind) := (blk_cell hk 1).trans rfl; have s1_2 : w1.cell? ⟨wr.heap.size, 2, none⟩ = some (.int .i64 who) := (blk_cell hk 2).trans rfl; have s1_3 : w1.cell? ⟨wr.heap.size, 3, none⟩ = some (.int .i64 code) := (blk_cell hk 3).trans rfl; have s1_4 : w1.cell? ⟨wr.heap.size, 4, none⟩ = some (.int .i64 rc) := (blk_cell hk 4).trans rfl; have s1_5 : w1.cell? ⟨wr.heap.size, 5, none⟩ = some (.slice A5 ns.length c5) := (blk_cell hk 5).trans rfl; have s1_6 : w1.cell? ⟨wr.heap.size, 6, none⟩ = some (.slice A6 rws.length c6) := (blk_cell hk 6).trans rfl; have s1_7 : w1.cell? ⟨wr.heap.size, 7, none⟩ = some (.int .i64 cn) := (blk_cell hk 7).trans rfl; have s1_8 : w1.cell? ⟨wr.heap.size, 8, none⟩ = some (.int .u64 (st : Int)) := (blk_cell hk 8).trans rfl; have s1_9 : w1.cell? ⟨wr.heap.size, 9, none⟩ = some (.int .i64 en) := (blk_cell hk 9).trans rfl; have s1_10 : w1.cell? ⟨wr.heap.size, 10, none⟩ = some (.slice A10 nums.length c10) := (blk_cell hk 10).trans rfl; clear hk hb) | (go_at_call 23; refine (head_calls cmd kind who code rc cn (st : Int) en _ _ _ _ HM.out.who.1 HM.out.who.2 (HG.out.below (show Below w.heap.size w _ from (by first | exact HP1.out.ps.be | exact HP1.out.drew.ps.be | exact HP1.out.drew.drew.ps.be)))).mono ?_; rintro e w2 ⟨rfl, hb⟩; have HP2 : Aside0 (PO w w.heap.size (printL (rs.take k)) wb w2) := ⟨PO.below (by first | exact HP1.out | exact HP1.out.drew | exact HP1.out.drew.drew) hb⟩; have hk := HP2.out.keeps BK.out HNE.out (by decide); have s2_0 : w2.cell? ⟨wr.heap.size, 0, none⟩ = some (.int .i64 cmd) := (blk_cell hk 0).trans rfl; have s2_1 : w2.cell? ⟨wr.heap.size, 1, none⟩ = some (.int .i64 kind) := (blk_cell hk 1).trans rfl; have s2_2 : w2.cell? ⟨wr.heap.size, 2, none⟩ = some (.int .i64 who) := (blk_cell hk 2).trans rfl; have s2_3 : w2.cell? ⟨wr.heap.size, 3, none⟩ = some (.int .i64 code) := (blk_cell hk 3).trans rfl; have s2_4 : w2.cell? ⟨wr.heap.size, 4, none⟩ = some (.int .i64 rc) := (blk_cell hk 4).trans rfl; have s2_5 : w2.cell? ⟨wr.heap.size, 5, none⟩ = some (.slice A5 ns.length c5) := (blk_cell hk 5).trans rfl; have s2_6 : w2.cell? ⟨wr.heap.size, 6, none⟩ = some (.slice A6 rws.length c6) := (blk_cell hk 6).trans rfl; have s2_7 : w2.cell? ⟨wr.heap.size, 7, none⟩ = some (.int .i64 cn) := (blk_cell hk 7).trans rfl; have s2_8 : w2.cell? ⟨wr.heap.size, 8, none⟩ = some (.int .u64 (st : Int)) := (blk_cell hk 8).trans rfl; have s2_9 : w2.cell? ⟨wr.heap.size, 9, none⟩ = some (.int .i64 en) := (blk_cell hk 9).trans rfl; have s2_10 : w2.cell? ⟨wr.heap.size, 10, none⟩ = some (.slice A10 nums.length c10) := (blk_cell hk 10).trans rfl; clear hk hb) | (go_at_call 24; refine (code_calls code _ HM.out.code (HG.out.below (show Below w.heap.size w _ from (by first | exact HP2.out.ps.be | exact HP2.out.drew.ps.be | exact HP2.out.drew.drew.ps.be)))).mono ?_; rintro e w3 ⟨rfl, hb⟩; have HP3 : Aside0 (PO w w.heap.size (printL (rs.take k)) wb w3) := ⟨PO.below (by first | exact HP2.out | exact HP2.out.drew | exact HP2.out.drew.drew) hb⟩; have hk := HP3.out.keeps BK.out HNE.out (by decide); have s3_0 : w3.cell? ⟨wr.heap.size, 0, none⟩ = some (.int .i64 cmd) := (blk_cell hk 0).trans rfl; have s3_1 : w3.cell? ⟨wr.heap.size, 1, none⟩ = some (.int .i64 kind) := (blk_cell hk 1).trans rfl; have s3_2 : w3.cell? ⟨wr.heap.size, 2, none⟩ = some (.int .i64 who) := (blk_cell hk 2).trans rfl; have s3_3 : w3.cell? ⟨wr.heap.size, 3, none⟩ = some (.int .i64 code) := (blk_cell hk 3).trans rfl; have s3_4 : w3.cell? ⟨wr.heap.size, 4, none⟩ = some (.int .i64 rc) := (blk_cell hk 4).trans rfl; have s3_5 : w3.cell? ⟨wr.heap.size, 5, none⟩ = some (.slice A5 ns.length c5) := (blk_cell hk 5).trans rfl; have s3_6 : w3.cell? ⟨wr.heap.size, 6, none⟩ = some (.slice A6 rws.length c6) := (blk_cell hk 6).trans rfl; have s3_7 : w3.cell? ⟨wr.heap.size, 7, none⟩ = some (.int .i64 cn) := (blk_cell hk 7).trans rfl; have s3_8 : w3.cell? ⟨wr.heap.size, 8, none⟩ = some (.int .u64 (st : Int)) := (blk_cell hk 8).trans rfl; have s3_9 : w3.cell? ⟨wr.heap.size, 9, none⟩ = some (.int .i64 en) := (blk_cell hk 9).trans rfl; have s3_10 : w3.cell? ⟨wr.heap.size, 10, none⟩ = some (.slice A10 nums.length c10) := (blk_cell hk 10).trans rfl; clear hk hb) | (go_at_call 21; refine ((show PO w w.heap.size (printL (rs.take k)) wb _ from (by first | exact HP3.out | exact HP3.out.drew | exact HP3.out.drew.drew)).str (((((⟨(Lib.itoa cmd).toArray⟩ : ByteArray) ++ (⟨#[32]⟩ : ByteArray)) ++ str (headW kind who)) ++ (⟨#[32]⟩ : ByteArray)) ++ str (codeL code)) (by rw [head_size]; have h1 := HB1.out; simp only [repHead, List.length_append, List.length_cons, List.length_nil] at h1; omega)).mono ?_; rintro e w4 ⟨rfl, ho⟩; have HP4 := Aside0.mk ho; have hk := HP4.out.keeps BK.out HNE.out (by decide); have s4_0 : w4.cell? ⟨wr.heap.size, 0, none⟩ = some (.int .i64 cmd) := (blk_cell hk 0).trans rfl; have s4_1 : w4.cell? ⟨wr.heap.size, 1, none⟩ = some (.int .i64 kind) := (blk_cell hk 1).trans rfl; have s4_2 : w4.cell? ⟨wr.heap.size, 2, none⟩ = some (.int .i64 who) := (blk_cell hk 2).trans rfl; have s4_3 : w4.cell? ⟨wr.heap.size, 3, none⟩ = some (.int .i64 code) := (blk_cell hk 3).trans rfl; have s4_4 : w4.cell? ⟨wr.heap.size, 4, none⟩ = some (.int .i64 rc) := (blk_cell hk 4).trans rfl; have s4_5 : w4.cell? ⟨wr.heap.size, 5, none⟩ = some (.slice A5 ns.length c5) := (blk_cell hk 5).trans rfl; have s4_6 : w4.cell? ⟨wr.heap.size, 6, none⟩ = some (.slice A6 rws.length c6) := (blk_cell hk 6).trans rfl; have s4_7 : w4.cell? ⟨wr.heap.size, 7, none⟩ = some (.int .i64 cn) := (blk_cell hk 7).trans rfl; have s4_8 : w4.cell? ⟨wr.heap.size, 8, none⟩ = some (.int .u64 (st : Int)) := (blk_cell hk 8).trans rfl; have s4_9 : w4.cell? ⟨wr.heap.size, 9, none⟩ = some (.int .i64 en) := (blk_cell hk 9).trans rfl; have s4_10 : w4.cell? ⟨wr.heap.size, 10, none⟩ = some (.slice A10 nums.length c10) := (blk_cell hk 10).trans rfl; clear hk ho))
        all_goals (go_wp2_with fail; go_meet)
        all_goals (exact ⟨by have h9 := HP4.out; rw [head_str] at h9; exact h9⟩)
      case rest =>
        have HP1 := hcut; clear hcut
        have hk1 := HP1.out.keeps BK.out HNE.out (by decide)
        have z0 : wc.cell? ⟨wr.heap.size, 0, none⟩ = some (.int .i64 cmd) := (blk_cell hk1 0).trans rfl
        have z1 : wc.cell? ⟨wr.heap.size, 1, none⟩ = some (.int .i64 kind) := (blk_cell hk1 1).trans rfl
        have z2 : wc.cell? ⟨wr.heap.size, 2, none⟩ = some (.int .i64 who) := (blk_cell hk1 2).trans rfl
        have z3 : wc.cell? ⟨wr.heap.size, 3, none⟩ = some (.int .i64 code) := (blk_cell hk1 3).trans rfl
        have z4 : wc.cell? ⟨wr.heap.size, 4, none⟩ = some (.int .i64 rc) := (blk_cell hk1 4).trans rfl
        have z5 : wc.cell? ⟨wr.heap.size, 5, none⟩ = some (.slice A5 ns.length c5) := (blk_cell hk1 5).trans rfl
        have z6 : wc.cell? ⟨wr.heap.size, 6, none⟩ = some (.slice A6 rws.length c6) := (blk_cell hk1 6).trans rfl
        have z7 : wc.cell? ⟨wr.heap.size, 7, none⟩ = some (.int .i64 cn) := (blk_cell hk1 7).trans rfl
        have z8 : wc.cell? ⟨wr.heap.size, 8, none⟩ = some (.int .u64 (st : Int)) := (blk_cell hk1 8).trans rfl
        have z9 : wc.cell? ⟨wr.heap.size, 9, none⟩ = some (.int .i64 en) := (blk_cell hk1 9).trans rfl
        have z10 : wc.cell? ⟨wr.heap.size, 10, none⟩ = some (.slice A10 nums.length c10) := (blk_cell hk1 10).trans rfl
        clear hk1 f1 f2 f3 f4
        by_cases e0 : kind = 1
        · have d0 : (kind == 1) = true := by simpa using e0
          have e1 : Aside0 (repL ⟨cmd, kind, who, code, ⟨rc, ns, rws, cn, (st : Int), en⟩, nums⟩ = repHead cmd kind who code ++ resL cn st en ns rws) := ⟨by rw [HR.out, if_pos e0]⟩
          have e2 : Aside0 ((printL (rs.take k)).length + (repHead cmd kind who code).length + (resL cn st en ns rws).length ≤ 140737488355328) := ⟨by have h1 := HB1.out; rw [if_pos e0] at h1; exact h1⟩
          clear e0
          go_wp2_with (first | (go_at_call 25; go_must (refine (res_calls w _ _ _ rc cn en st A5 c5 ns A6 c6 rws HC5.out HC6.out HG.out HP1.out.ps HM.out.res (by have h1 := e2.out; rw [List.length_append]; exact h1)).mono ?_; rintro e w5 ⟨rfl, ho⟩; have HP2 := Aside0.mk ho; clear ho)))
          go_roundw
          case rel =>
            refine ⟨k + 1, by omega, by go_num, ⟨?_⟩⟩
            rw [HX.out, e1.out, ← List.append_assoc]
            exact HP2.out.ps
          case measure => simp [intOf]; omega
        · have d0 : (kind == 1) = false := by simpa using e0
          have e1 : Aside0 (repL ⟨cmd, kind, who, code, ⟨rc, ns, rws, cn, (st : Int), en⟩, nums⟩ = repHead cmd kind who code ++ (numsL nums ++ [10])) := ⟨by rw [HR.out, if_neg e0]⟩
          have e2 : Aside0 ((printL (rs.take k)).length + (repHead cmd kind who code).length + ((numsL nums).length + 1) ≤ 140737488355328) := ⟨by have h1 := HB1.out; rw [if_neg e0, List.length_append, List.length_singleton] at h1; exact h1⟩
          clear e0
          have HNl := Aside0.mk HM.out.nl
          have HNq := Aside0.mk HM.out.nq
          dsimp only at HNl HNq
          go_wp2
          go_loopw [36] (fun v36 wq => ∃ (j : Nat), j ≤ nums.length ∧ v36 = .int .i64 (j : Int) ∧ Aside0 (PO w w.heap.size (printL (rs.take k) ++ repHead cmd kind who code ++ numsL (nums.take j)) wb wq)) (fun v36 _ => nums.length - (intOf v36).toNat)
          case atStart =>
            exact ⟨0, Nat.zero_le _, rfl, ⟨by simpa [numsL] using HP1.out⟩⟩
          case round =>
            clear HP1
            obtain ⟨j, hj, rfl, HQ⟩ := hrel
            have hj9 : j ≤ 1000000000 := Nat.le_trans hj HNl.out
            by_cases hjt : j < nums.length
            · have d3 : decide ((j : Int) < (nums.length : Int)) = true := decide_eq_true (by omega)
              obtain ⟨ad3, e3, q0⟩ := int_lt HC10.out j hjt
              cases e3
              replace q0 := (HQ.out.ps.be.cell (World.block_lt_of_cell? w _ q0)).trans q0
              have HY := Aside0.mk (nums_take nums j hjt _ (rdI_lt nums j hjt).symm)
              have HZ := Aside0.mk (rdI_lt nums j hjt ▸ HNq.out nums[j] (List.getElem_mem hjt))
              have HW := Aside0.mk (nums_len nums (j + 1))
              generalize rd nums (j : Int) = y at *
              have hi := itoa_le y HZ.out
              have f1 : (9223372036854775807 < 1 + (Lib.itoa y).length) = False := eq_false (by omega)
              clear hi
              go_wp2_with (first | (go_at_call 22; go_must (refine (itoa_calls y HZ.out.1 HZ.out.2 _ (HG.out.below HQ.out.ps.be).tab).mono ?_; rintro e w6 ⟨rfl, hb⟩; have HQ1 := Aside0.mk (HQ.out.below hb); clear hb)) | (go_at_call 21; go_must (refine (HQ1.out.str ((⟨#[32]⟩ : ByteArray) ++ (⟨(Lib.itoa y).toArray⟩ : ByteArray)) (by have h1 := app_size [32] (Lib.itoa y); have h2 := e2.out; have h3 := HW.out; rw [HY.out, List.length_append, List.length_cons] at h3; rw [h1, List.length_append, List.length_append, List.length_singleton]; omega)).mono ?_; rintro e w7 ⟨rfl, ho⟩; have HQ2 := Aside0.mk ho; clear ho)))
              go_roundw
              case rel =>
                refine ⟨j + 1, by omega, by go_num, ⟨?_⟩⟩
                have h1 := app_data [32] (Lib.itoa y)
                have h2 := HQ2.out
                rw [h1, List.append_assoc] at h2
                rw [HY.out]
                exact h2
              case measure => simp [intOf]; omega
            · have d3 : decide ((j : Int) < (nums.length : Int)) = false := decide_eq_false (by omega)
              have hj2 : nums.take j = nums := List.take_of_length_le (by omega)
              rw [hj2] at HQ
              clear hj2
              go_wp2_with (first | (go_at_call 26; go_must (refine (HQ.out.byte 10 (by have h1 := e2.out; simp only [List.length_append]; omega)).mono ?_; rintro e w7 ⟨rfl, ho⟩; have HQ2 := Aside0.mk ho; clear ho)))
              go_roundw
              case rel =>
                refine ⟨k + 1, by omega, by go_num, ⟨?_⟩⟩
                rw [HX.out, e1.out]
                have h2 := HQ2.out.ps
                rw [List.append_assoc, List.append_assoc] at h2
                exact h2
              case measure => simp [intOf]; omega
    · have d1 : decide ((k : Int) < (rs.length : Int)) = false := decide_eq_false (by omega)
      have e : rs.take k = rs := List.take_of_length_le (by omega)
      rw [e] at HP
      clear e
      go_wp2_with (first | (go_at_call 27; go_must (refine (string_calls w _ _ _ HP.out).mono ?_; rintro e w8 ⟨rfl, hb⟩)))
      go_ret
      exact ⟨rfl, hb⟩
abbrev GL (w : World) : Prop := GP w
instance (x : Int) : Decidable (inI x) := inferInstanceAs (Decidable (_ ∧ _))
instance (x : S84) : Decidable (okVal x) := inferInstanceAs (Decidable (_ ∧ _))
instance (cn : Int) (st : Nat) (ns : List ByteArray) (rs : List (List S84)) : Decidable (okRes cn st ns rs) :=
  decidable_of_iff (inI cn ∧ st < 18446744073709551616 ∧ ns.length ≤ 1000000000 ∧ (∀ s ∈ ns, s.size ≤ 1000000000) ∧ rs.length ≤ 1000000000 ∧ (∀ r ∈ rs, r.length ≤ 1000000000 ∧ ∀ v ∈ r, okVal v))
    ⟨fun ⟨a, b, c, d, e, f⟩ => ⟨a, b, c, d, e, f⟩, fun h => ⟨h.cn, h.st, h.nl, h.nq, h.rl, h.rq⟩⟩
instance (x : S32) : Decidable (okRep x) :=
  decidable_of_iff (inI x.f0 ∧ inI x.f2 ∧ inI x.f3 ∧ 0 ≤ x.f4.f4 ∧ okRes x.f4.f3 x.f4.f4.toNat x.f4.f1 x.f4.f2 ∧ x.f5.length ≤ 1000000000 ∧ (∀ n ∈ x.f5, inI n))
    ⟨fun ⟨a, b, c, d, e, f, g⟩ => ⟨a, b, c, d, e, f, g⟩, fun h => ⟨h.cmd, h.who, h.code, h.st0, h.res, h.nl, h.nq⟩⟩
def okAll (l : List S32) : Prop := l.length ≤ 1000000000 ∧ (∀ r ∈ l, okRep r) ∧ (printL l).length ≤ 140737488355328
instance (l : List S32) : Decidable (okAll l) := inferInstanceAs (Decidable (_ ∧ _ ∧ _))
def store_Print.f (l : List S32) : Option ByteArray := if okAll l then some (str (printL l)) else none
theorem store_Print.calls (A0 : Option Addr) (c0 : Nat) (l0 : List S32) (r : ByteArray) (w : World) (hr0 : Kd.C k32 w A0 l0.length l0) (hc0 : l0.length ≤ c0) (h : store_Print.f l0 = some r) (hG : GL w) :
    Calls Tryd.prog 8 #[.slice A0 l0.length c0] w fun e w' => e = .returned (.string r) ∧ Below w.heap.size w w' := by
  unfold store_Print.f at h
  by_cases hc : okAll l0
  case neg => rw [if_neg hc] at h; exact absurd h (by simp)
  rw [if_pos hc] at h
  obtain rfl := Option.some.inj h
  exact print_calls w A0 c0 l0 hr0 hG hc.1 hc.2.1 hc.2.2

end Go.Proofs.YtggbhdcgfnjogaaDoor.PSp
