import Derived.Test.YtggbhdcgfnjogaaGreatDoorKPPcx0
namespace Go.Proofs.YtggbhdcgfnjogaaGreatDoor.PPc
open Go.RowKit Go.Proofs.YtggbhdcgfnjogaaGreatDoorW.PrintWords Go.Proofs.YtggbhdcgfnjogaaGreatDoorW.PrintLast Go.Proofs.YtggbhdcgfnjogaaGreatDoorW.PrintMore
set_option linter.unusedVariables false
set_option linter.unusedSimpArgs false
def zI {α : Type} [BEq α] (seen : List α) : List α → Bool
 | [] => false
 | x :: l => if seen.contains x then true else zI (seen ++ [x]) l
def Counts {κ : Type} [BEq κ] (kl : κ → Lit) (D : DataW Unit) (seen : List κ) : Prop := Maps.IsMap D ∧ ∀ x, D.atKey (kl x) (.lit (.int .i64 0)) = .lit (.int .i64 (if seen.contains x then 1 else 0))
theorem Counts.put {κ : Type} [BEq κ] [LawfulBEq κ] {kl : κ → Lit} (hinj : ∀ x y, kl x = kl y → x = y) (hkey : ∀ x, WideAt.IsKeyLit (kl x)) {D : DataW Unit} {seen : List κ} (h : Counts kl D seen) (x : κ) (hx : seen.contains x = false) :
 Counts kl (D.put (kl x) (.lit (.int .i64 1))) (seen ++ [x]) := by
 refine ⟨h.1.put _ _, fun y => ?_⟩
 by_cases e : y = x
 · subst e
   rw [Maps.atKey_put_same h.1 (hkey y)]
   have : (seen ++ [y]).contains y = true := by simp
   rw [if_pos this]
 · rw [Maps.atKey_put_other (fun e' => e (hinj _ _ e')), h.2 y]
   have : (seen ++ [x]).contains y = seen.contains y := by simp [e]
   rw [this]
theorem makeMap_hint {P : Program} {t k e : TypeId} (h : P.underlying t = some (.map k e)) (n : Int) (u : World) : (Instr.makeMap t (some (.int .i64 n))).run P u = .ok (.map (some u.heap.size)) (u.alloc (.map #[] 0)) := by
 simp [Instr.makeMap, run_underlying h, asInt]
 rfl
def zf.f (l : List ByteArray) : Option Bool := if l.length ≤ 1000000000 ∧ ∀ s ∈ l, s.size ≤ 1000000000 then some (zI [] (l.map fun s => s.data.toList)) else none
set_option maxHeartbeats 4000000 in
set_option maxRecDepth 100000 in
theorem zf.calls (A0 : Option Addr) (c0 : Nat) (l0 : List ByteArray) (r : Bool) (w : World) (hr0 : Kd.C Kd.string w A0 l0.length l0) (hc0 : l0.length ≤ c0) (h : zf.f l0 = some r) :
 Calls Tryz.prog 40 #[.slice A0 l0.length c0] w fun e w' => e = .returned (.bool r) ∧ Below w.heap.size w w' := by
 unfold zf.f at h
 by_cases hl : l0.length ≤ 1000000000 ∧ ∀ s ∈ l0, s.size ≤ 1000000000
 case neg => rw [if_neg hl] at h; exact absurd h (by simp)
 rw [if_pos hl] at h;have Hr := Aside0.mk (Option.some.inj h);clear h;have HR0 := Aside0.mk hr0;have HL := Aside0.mk hl.1;have HS := Aside0.mk hl.2;clear hr0 hc0 hl;have HB := Aside0.mk (Below.refl w.heap.size w);have law : Maps.Keyed Tryz.prog 9 := Maps.string_keyed Tryz.underlying9
 have zero3 : ∀ w : World, (zeroValue 3).run Tryz.prog w = .ok (.int .i64 0) w := fun w => by kernel_rfl
 have hmm : ∀ (n : Int) (u : World), (Instr.makeMap 104 (some (.int .i64 n))).run Tryz.prog u = .ok (.map (some u.heap.size)) (u.alloc (.map #[] 0)) := fun n u => makeMap_hint Tryz.underlying104 n u
 go_enter Tryz.func40, Tryz.ntmps40
 go_wp2
 go_loopw [11] (fun v11 wr => ∃ (k : Nat) (D : DataW Unit), k ≤ l0.length ∧ v11 = .int .i64 (k : Int) ∧ Aside0 (wr.ownsMap Tryz.prog 9 (plainElem Tryz.prog 3) w.heap.size k D) ∧ Aside0 (Counts (fun x => Lit.string x) D ((l0.take k).map fun s => s.data.toList)) ∧ Aside0 (zI ((l0.take k).map fun s => s.data.toList) ((l0.drop k).map fun s => s.data.toList) = r) ∧ Aside0 (Below w.heap.size w wr)) (fun v11 _ => l0.length - (intOf v11).toNat)
 case atStart => exact ⟨0, .map [], Nat.zero_le _, rfl, ⟨World.ownsMap_made _ _ _ _⟩, ⟨⟨Maps.isMap_empty, fun x => rfl⟩⟩, ⟨Hr.out⟩, ⟨qa HB.out _⟩⟩
 case round =>
  clear HB hmm Hr;obtain ⟨k, D, hk, rfl, HO, HC, HD, HB⟩ := hrel;have hk9 : k ≤ 1000000000 := Nat.le_trans hk HL.out
  by_cases hlt : k < l0.length
  · have d1 : decide ((k : Int) < (l0.length : Int)) = true := decide_eq_true (by omega)
    have d2 : decide (k < l0.length) = true := decide_eq_true hlt;obtain ⟨ad, e1, h0⟩ := Kd.at_string (HR0.out) (k : Int) (by omega) (by omega);cases e1;simp only [Int.toNat_natCast] at h0;replace h0 := (HB.out.cell (World.block_lt_of_cell? w _ h0)).trans h0;have Hx : Aside0 (rdOf ByteArray.empty l0 (k : Int) = l0[k]) := ⟨by simp [rdOf, List.getD_eq_getElem?_getD, hlt]⟩;have HZ : Aside0 ((rdOf ByteArray.empty l0 (k : Int)).size ≤ 1000000000) := ⟨by rw [Hx.out]; exact HS.out _ (List.getElem_mem hlt)⟩
    have HT : Aside0 ((l0.take (k + 1)).map (fun s => s.data.toList) = (l0.take k).map (fun s => s.data.toList) ++ [(rdOf ByteArray.empty l0 (k : Int)).data.toList]) := by
     constructor
     rw [List.take_succ_eq_append_getElem hlt, List.map_append, List.map_singleton, Hx.out]
    have HD2 : Aside0 ((if ((l0.take k).map fun s => s.data.toList).contains (rdOf ByteArray.empty l0 (k : Int)).data.toList then true else zI (((l0.take k).map fun s => s.data.toList) ++ [(rdOf ByteArray.empty l0 (k : Int)).data.toList]) ((l0.drop (k + 1)).map fun s => s.data.toList)) = r) := by
     constructor
     rw [Hx.out, ← HD.out, List.drop_eq_getElem_cons hlt, List.map_cons]
     rfl
    generalize rdOf ByteArray.empty l0 (k : Int) = x at *;clear HD Hx HR0;have hkey : keyOf Tryz.prog 9 (.string x) = some (.string x.data.toList) := WideMaps.keyOf_string_mk Tryz.underlying9 (by have := HZ.out; unfold maxLen; omega);obtain ⟨c, hrun, hat, _⟩ := HO.out.lookup_int law Tryz.underlying104 Tryz.underlying3 (zero3 _) hkey;have hc := HC.out.2 x.data.toList;rw [hat] at hc
    by_cases hin : ((l0.take k).map fun s => s.data.toList).contains x.data.toList = true
    · rw [if_pos hin] at hc
      obtain rfl : c = 1 := by injection hc with hc; injection hc
      have Hf : Aside0 (true = r) := ⟨by rw [← HD2.out, if_pos hin]⟩;clear HD2 HT hin hc
      go_wp2_with (first | (at_mapUpdate; refine wpList_mapUpdate_own _ rfl _ _ _ 104 rfl 9 3 law Tryz.underlying104 _ w.heap.size k _ rfl HO.out (by unfold maxLen; omega) _ _ _ rfl rfl hkey _ [] (plainElem_int Tryz.underlying3 (by decide)) ?_))
      intro w1 hown1 hgrow1;obtain ⟨c2, hrun2, hat2, _⟩ := hown1.lookup_int law Tryz.underlying104 Tryz.underlying3 (zero3 _) hkey;rw [Maps.atKey_put_same (k := .string x.data.toList) HC.out.1 trivial] at hat2
      obtain rfl : 2 = c2 := by injection hat2 with hc; injection hc
      have HB1 := Aside0.mk (HB.out.grown hgrow1 (qj HB.out) (fun j hj => by cases hj; exact Nat.le_refl _));clear hown1 hgrow1 hrun hat hat2;go_wp2
      go_ret
      exact ⟨by rw [← Hf.out]; rfl, HB1.out⟩
    · rw [if_neg hin] at hc
      obtain rfl : c = 0 := by injection hc with hc; injection hc
      have HD3 : Aside0 (zI (((l0.take k).map fun s => s.data.toList) ++ [x.data.toList]) ((l0.drop (k + 1)).map fun s => s.data.toList) = r) := ⟨by rw [← HD2.out, if_neg hin]⟩;have HC2 := Aside0.mk (Counts.put (kl := fun x => Lit.string x) (fun a b h => by injection h) (fun x => (trivial : WideAt.IsKeyLit (Lit.string x))) HC.out x.data.toList (by simpa using hin));rw [← HT.out] at HD3 HC2;clear HD2 hin hc
      go_wp2_with (first | (at_mapUpdate; refine wpList_mapUpdate_own _ rfl _ _ _ 104 rfl 9 3 law Tryz.underlying104 _ w.heap.size k _ rfl HO.out (by unfold maxLen; omega) _ _ _ rfl rfl hkey _ [] (plainElem_int Tryz.underlying3 (by decide)) ?_))
      intro w1 hown1 hgrow1;obtain ⟨c2, hrun2, hat2, _⟩ := hown1.lookup_int law Tryz.underlying104 Tryz.underlying3 (zero3 _) hkey;rw [Maps.atKey_put_same (k := .string x.data.toList) HC.out.1 trivial] at hat2
      obtain rfl : 1 = c2 := by injection hat2 with hc; injection hc
      have HB1 := Aside0.mk (HB.out.grown hgrow1 (qj HB.out) (fun j hj => by cases hj; exact Nat.le_refl _));have HO1 := Aside0.mk hown1;clear hown1 hgrow1 hrun hat hat2;go_wp2
      go_roundw
      case rel => exact ⟨k + 1, _, by omega, by go_num, HO1, HC2, HD3, HB1⟩
      case measure => simp [intOf]; omega
  · have d1 : decide ((k : Int) < (l0.length : Int)) = false := decide_eq_false (by omega)
    have d2 : decide (k < l0.length) = false := decide_eq_false hlt;have e : l0.drop k = [] := List.drop_eq_nil_of_le (by omega);have Hf : Aside0 (false = r) := ⟨by rw [← HD.out, e]; rfl⟩;go_wp2
    go_ret
    exact ⟨by rw [← Hf.out]; rfl, HB.out⟩
def zp.f (l : List S49) : Option (List ByteArray) := if l.length ≤ 1000000000 then some (l.map (·.f0)) else none
set_option maxHeartbeats 2000000 in
set_option maxRecDepth 100000 in
theorem zp.calls (A0 : Option Addr) (c0 : Nat) (l0 : List (S49)) (r : List ByteArray) (w : World) (hr0 : Kd.C k49 w A0 l0.length l0) (hc0 : l0.length ≤ c0) (h : zp.f l0 = some r) :
 Calls Tryz.prog 41 #[.slice A0 l0.length c0] w fun e w' => ∃ v0_ : Value, e = .returned (v0_) ∧ Kd.R Kd.string 9 w' w.heap.size (fun _ => True) v0_ r ∧ Below w.heap.size w w' := by
 unfold zp.f at h
 by_cases hl : l0.length ≤ 1000000000
 case neg => rw [if_neg hl] at h; exact absurd h (by simp)
 rw [if_pos hl] at h;have Hr := Aside0.mk (Option.some.inj h);clear h;have HR0 := Aside0.mk hr0;have HL := Aside0.mk hl;clear hr0 hc0 hl;have HB := Aside0.mk (Below.refl w.heap.size w);obtain ⟨i0, hi, hz0, hz1, hz2⟩ := info_parts info9
 have hmk : ∀ u : World, (Instr.makeSlice 92 (.int .i64 0) (.int .i64 (l0.length : Int))).run Tryz.prog u =
  .ok (.slice (some ⟨u.heap.size, 0, none⟩) 0 l0.length) (u.alloc (.cells (madeCells #[.string ⟨#[]⟩] l0.length) 9)) := fun u => by
  have h := run_make (P := Tryz.prog) u 92 9 i0 (.string ⟨#[]⟩) Tryz.underlying92 hi hz0 .i64 .i64 0 (l0.length : Int) (by omega) (by omega) (by rw [hz2]; have := HL.out; omega) (by have := HL.out; omega)
  simpa [hz1, Value.cells] using h
 have hu49 := Tryz.underlying49;clear hi hz0 hz1 hz2
 go_enter Tryz.func41, Tryz.ntmps41
 go_wp2
 go_loopw [3, 11] (fun v3 v11 wr => ∃ (k : Nat), k ≤ l0.length ∧ v11 = .int .i64 (k : Int) ∧ Aside0 (Kd.R Kd.string 9 wr w.heap.size (fun _ => True) v3 ((l0.take k).map (·.f0))) ∧ Aside0 (Below w.heap.size w wr)) (fun _ v11 _ => l0.length - (intOf v11).toNat)
 case atStart =>
  refine ⟨0, Nat.zero_le _, rfl, ⟨?_⟩, ⟨qa HB.out _⟩⟩
  exact own_zero w w.heap.size 9 Kd.string l0.length (Nat.le_refl _) (by have := HL.out; omega) _ (by simp [madeCells, Kd.string, Kd.scalar])
 case round =>
  clear HB hmk;obtain ⟨k, hk, rfl, HO, HB⟩ := hrel;have hk9 : k ≤ 1000000000 := Nat.le_trans hk HL.out
  by_cases hlt : k < l0.length
  · have d1 : decide ((k : Int) < (l0.length : Int)) = true := decide_eq_true (by omega)
    have d2 : decide (k < l0.length) = true := decide_eq_true hlt;obtain ⟨ad, e1, h0, h1, h2⟩ := zQ HR0.out (k : Int) (by omega) (by omega);cases e1;simp only [Int.toNat_natCast] at h0 h1 h2;replace h0 := (HB.out.cell (World.block_lt_of_cell? w _ h0)).trans h0;replace h1 := (HB.out.cell (World.block_lt_of_cell? w _ h1)).trans h1;replace h2 := (HB.out.cell (World.block_lt_of_cell? w _ h2)).trans h2
    have HT : Aside0 ((l0.take (k + 1)).map (·.f0) = (l0.take k).map (·.f0) ++ [(qq l0 (k : Int)).f0]) := by
     constructor
     rw [List.take_succ_eq_append_getElem hlt, List.map_append, List.map_singleton]
     congr 2
     simp [qq, List.getD_eq_getElem?_getD, hlt]
    generalize qq l0 (k : Int) = x at *
    go_wp2_with (first | ((with_reducible refine qQ (b := .append) (xs := #[.tmp 15, .tmp 18]) rfl ?_); at_builtin; (refine Kd.R_append Kd.string (w0 := w) w.heap.size rfl (.tmp 15) (.tmp 18) 92 9 (.string ⟨#[]⟩) 16 rfl Tryz.underlying92 info9 rfl (by decide) (by omega) u3 ((l0.take k).map (·.f0)) x.f0 [.string x.f0] (fun _ => True) (fun _ => False) rfl ?hx ?aP (fun _ hk => hk.elim) ?aF ?aO ?aB ?aS ?aL ?_); (case hx => exact slice_at (World.size_alloc _ _).symm); (case aP => exact rfl); (case aB => exact qa HB.out _); (case aF => exact (fun _ _ => trivial)); (case aO => exact Kd.R_alloc HO.out _); (case aS => exact qj (qa HB.out _)); (case aL => have := HL.out; simp only [List.length_map, List.length_take]; omega); intro v1 w1 ho hb hg hat; rw [← HT.out] at ho; have n0_ := Aside0.mk (hb); have n1_ := Aside0.mk (ho); clear ho hb hg hat))
    go_roundw
    case rel => exact ⟨k + 1, by omega, by go_num, n1_, n0_⟩
    case measure => simp [intOf]; omega
  · have d1 : decide ((k : Int) < (l0.length : Int)) = false := decide_eq_false (by omega)
    have d2 : decide (k < l0.length) = false := decide_eq_false hlt;go_wp2
    go_ret
    refine ⟨_, rfl, ?_, HB.out⟩;have e : l0.take k = l0 := List.take_of_length_le (by omega);rw [← Hr.out];rw [← e]
    exact HO.out
theorem wf_i64 {x : Int} (h0 : -9223372036854775808 ≤ x) (h1 : x ≤ 9223372036854775807) : (Lit.int .i64 x).wf = true := by
 simp [Lit.wf, IntKind.min, IntKind.max, IntKind.signed, IntKind.bits]; omega
def zn.f (l : List Int) : Option Bool := if l.length ≤ 1000000000 ∧ ∀ s ∈ l, -9223372036854775808 ≤ s ∧ s ≤ 9223372036854775807 then some (zI [] l) else none
set_option maxHeartbeats 4000000 in
set_option maxRecDepth 100000 in
theorem zn.calls (A0 : Option Addr) (c0 : Nat) (l0 : List Int) (r : Bool) (w : World) (hr0 : Kd.C (Kd.int .i64) w A0 l0.length l0) (hc0 : l0.length ≤ c0) (h : zn.f l0 = some r) :
 Calls Tryz.prog 42 #[.slice A0 l0.length c0] w fun e w' => e = .returned (.bool r) ∧ Below w.heap.size w w' := by
 unfold zn.f at h
 by_cases hl : l0.length ≤ 1000000000 ∧ ∀ s ∈ l0, -9223372036854775808 ≤ s ∧ s ≤ 9223372036854775807
 case neg => rw [if_neg hl] at h; exact absurd h (by simp)
 rw [if_pos hl] at h;have Hr := Aside0.mk (Option.some.inj h);clear h;have HR0 := Aside0.mk hr0;have HL := Aside0.mk hl.1;have HS := Aside0.mk hl.2;clear hr0 hc0 hl;have HB := Aside0.mk (Below.refl w.heap.size w);have law : Maps.Keyed Tryz.prog 3 := Maps.int_keyed Tryz.underlying3
 have zero3 : ∀ w : World, (zeroValue 3).run Tryz.prog w = .ok (.int .i64 0) w := fun w => by kernel_rfl
 have hmm : ∀ (n : Int) (u : World), (Instr.makeMap 105 (some (.int .i64 n))).run Tryz.prog u = .ok (.map (some u.heap.size)) (u.alloc (.map #[] 0)) := fun n u => makeMap_hint Tryz.underlying105 n u
 go_enter Tryz.func42, Tryz.ntmps42
 go_wp2
 go_loopw [11] (fun v11 wr => ∃ (k : Nat) (D : DataW Unit), k ≤ l0.length ∧ v11 = .int .i64 (k : Int) ∧ Aside0 (wr.ownsMap Tryz.prog 3 (plainElem Tryz.prog 3) w.heap.size k D) ∧ Aside0 (Counts (fun x => Lit.int .i64 x) D (l0.take k)) ∧ Aside0 (zI (l0.take k) (l0.drop k) = r) ∧ Aside0 (Below w.heap.size w wr)) (fun v11 _ => l0.length - (intOf v11).toNat)
 case atStart => exact ⟨0, .map [], Nat.zero_le _, rfl, ⟨World.ownsMap_made _ _ _ _⟩, ⟨⟨Maps.isMap_empty, fun x => rfl⟩⟩, ⟨Hr.out⟩, ⟨qa HB.out _⟩⟩
 case round =>
  clear HB hmm Hr;obtain ⟨k, D, hk, rfl, HO, HC, HD, HB⟩ := hrel;have hk9 : k ≤ 1000000000 := Nat.le_trans hk HL.out
  by_cases hlt : k < l0.length
  · have d1 : decide ((k : Int) < (l0.length : Int)) = true := decide_eq_true (by omega)
    have d2 : decide (k < l0.length) = true := decide_eq_true hlt;obtain ⟨ad, e1, h0⟩ := Kd.at_int (HR0.out) (k : Int) (by omega) (by omega);cases e1;simp only [Int.toNat_natCast] at h0;replace h0 := (HB.out.cell (World.block_lt_of_cell? w _ h0)).trans h0;have Hx : Aside0 (rd l0 (k : Int) = l0[k]) := ⟨by simp [rd, List.getD_eq_getElem?_getD, hlt]⟩;have HZ : Aside0 (-9223372036854775808 ≤ rd l0 (k : Int) ∧ rd l0 (k : Int) ≤ 9223372036854775807) := ⟨by rw [Hx.out]; exact HS.out _ (List.getElem_mem hlt)⟩
    have HT : Aside0 (l0.take (k + 1) = l0.take k ++ [rd l0 (k : Int)]) := by
     constructor
     rw [List.take_succ_eq_append_getElem hlt, Hx.out]
    have HD2 : Aside0 ((if (l0.take k).contains (rd l0 (k : Int)) then true else zI ((l0.take k) ++ [(rd l0 (k : Int))]) (l0.drop (k + 1))) = r) := by
     constructor
     rw [Hx.out, ← HD.out, List.drop_eq_getElem_cons hlt]
     rfl
    generalize rd l0 (k : Int) = x at *;clear HD Hx HR0;have hkey : keyOf Tryz.prog 3 (.int .i64 x) = some (.int .i64 x) := Maps.keyOf_int_mk Tryz.underlying3 (wf_i64 HZ.out.1 HZ.out.2);obtain ⟨c, hrun, hat, _⟩ := HO.out.lookup_int law Tryz.underlying105 Tryz.underlying3 (zero3 _) hkey;have hc := HC.out.2 x;rw [hat] at hc
    by_cases hin : (l0.take k).contains x = true
    · rw [if_pos hin] at hc
      obtain rfl : c = 1 := by injection hc with hc; injection hc
      have Hf : Aside0 (true = r) := ⟨by rw [← HD2.out, if_pos hin]⟩;clear HD2 HT hin hc
      go_wp2_with (first | (at_mapUpdate; refine wpList_mapUpdate_own _ rfl _ _ _ 105 rfl 3 3 law Tryz.underlying105 _ w.heap.size k _ rfl HO.out (by unfold maxLen; omega) _ _ _ rfl rfl hkey _ [] (plainElem_int Tryz.underlying3 (by decide)) ?_))
      intro w1 hown1 hgrow1;obtain ⟨c2, hrun2, hat2, _⟩ := hown1.lookup_int law Tryz.underlying105 Tryz.underlying3 (zero3 _) hkey;rw [Maps.atKey_put_same (k := .int .i64 x) HC.out.1 trivial] at hat2
      obtain rfl : 2 = c2 := by injection hat2 with hc; injection hc
      have HB1 := Aside0.mk (HB.out.grown hgrow1 (qj HB.out) (fun j hj => by cases hj; exact Nat.le_refl _));clear hown1 hgrow1 hrun hat hat2;go_wp2
      go_ret
      exact ⟨by rw [← Hf.out]; rfl, HB1.out⟩
    · rw [if_neg hin] at hc
      obtain rfl : c = 0 := by injection hc with hc; injection hc
      have HD3 : Aside0 (zI ((l0.take k) ++ [x]) (l0.drop (k + 1)) = r) := ⟨by rw [← HD2.out, if_neg hin]⟩;have HC2 := Aside0.mk (Counts.put (kl := fun x => Lit.int .i64 x) (fun a b h => by injection h) (fun x => (trivial : WideAt.IsKeyLit (Lit.int .i64 x))) HC.out x (by simpa using hin));rw [← HT.out] at HD3 HC2;clear HD2 hin hc
      go_wp2_with (first | (at_mapUpdate; refine wpList_mapUpdate_own _ rfl _ _ _ 105 rfl 3 3 law Tryz.underlying105 _ w.heap.size k _ rfl HO.out (by unfold maxLen; omega) _ _ _ rfl rfl hkey _ [] (plainElem_int Tryz.underlying3 (by decide)) ?_))
      intro w1 hown1 hgrow1;obtain ⟨c2, hrun2, hat2, _⟩ := hown1.lookup_int law Tryz.underlying105 Tryz.underlying3 (zero3 _) hkey;rw [Maps.atKey_put_same (k := .int .i64 x) HC.out.1 trivial] at hat2
      obtain rfl : 1 = c2 := by injection hat2 with hc; injection hc
      have HB1 := Aside0.mk (HB.out.grown hgrow1 (qj HB.out) (fun j hj => by cases hj; exact Nat.le_refl _));have HO1 := Aside0.mk hown1;clear hown1 hgrow1 hrun hat hat2;go_wp2
      go_roundw
      case rel => exact ⟨k + 1, _, by omega, by go_num, HO1, HC2, HD3, HB1⟩
      case measure => simp [intOf]; omega
  · have d1 : decide ((k : Int) < (l0.length : Int)) = false := decide_eq_false (by omega)
    have d2 : decide (k < l0.length) = false := decide_eq_false hlt;have e : l0.drop k = [] := List.drop_eq_nil_of_le (by omega);have Hf : Aside0 (false = r) := ⟨by rw [← HD.out, e]; rfl⟩;go_wp2
    go_ret
    exact ⟨by rw [← Hf.out]; rfl, HB.out⟩
end Go.Proofs.YtggbhdcgfnjogaaGreatDoor.PPc

