import Derived.Test.YtfmgbgkcmmpcfaaGreatDoorCPTkx0
namespace Go.Proofs.YtfmgbgkcmmpcfaaGreatDoor.PTk
open Go.RowKit Go.Proofs.YtfmgbgkcmmpcfaaGreatDoorW.PrintWords Go.Proofs.YtfmgbgkcmmpcfaaGreatDoorW.PrintLast Go.Proofs.YtfmgbgkcmmpcfaaGreatDoorW.PrintMore
attribute [local go_sem] zp zC
set_option linter.unusedVariables false
set_option linter.unusedSimpArgs false
def zw.f (a0 : ByteArray) : Option (Bool) := if a0.toList = ([] : List UInt8) then (some false) else (some (decide ((a0.size : Int) ≤ 32)))
set_option maxHeartbeats 8000000 in
set_option maxRecDepth 100000 in
theorem zw.calls (a0 : ByteArray) (r : Bool) (w : World) (h : zw.f a0 = some r) :
 Calls Tryz.prog 124 #[.string a0] w fun e w' => e = .returned (.bool r) ∧ qt w w' := by
 have H : (if a0.toList = ([] : List UInt8) then (some false) else (some (decide ((a0.size : Int) ≤ 32)))) = some r := h;clear h
 by_cases c2 : a0.toList = ([] : List UInt8)
 · rw [if_pos c2] at H
   have ab : (a0.toList == ([] : List UInt8)) = true := beq_iff_eq.mpr c2;have ac : (a0.toList != ([] : List UInt8)) = false := bne_eq_false_iff_eq.mpr c2;clear c2;obtain rfl := Option.some.inj H
   go_enter Tryz.func124, Tryz.ntmps124
   go_wp2
   go_ret
   exact ⟨by first | rfl | (simp; done) | (simp [*]; done), by repeat (first | exact qt.refl _ | apply qt.step)⟩
 · rw [if_neg c2] at H
   have ab : (a0.toList == ([] : List UInt8)) = false := beq_eq_false_iff_ne.mpr c2;have ac : (a0.toList != ([] : List UInt8)) = true := bne_iff_ne.mpr c2;obtain rfl := Option.some.inj H
   go_enter Tryz.func124, Tryz.ntmps124
   go_wp2
   go_ret
   exact ⟨by first | rfl | (simp; done) | (simp [*]; done), by repeat (first | exact qt.refl _ | apply qt.step)⟩
abbrev str (l : List UInt8) : ByteArray := ⟨l.toArray⟩
theorem zi (l : List UInt8) : (str l).size = l.length := by show l.toArray.size = _; simp
theorem str_of (s : ByteArray) : str s.data.toList = s := by cases s; simp [str]
theorem str_eq {a b : ByteArray} (h : a = b) : Ending.returned (.string a) = Ending.returned (.string b) := by rw [h]
theorem app_str (a b : List UInt8) : (⟨a.toArray⟩ : ByteArray) ++ (⟨b.toArray⟩ : ByteArray) = ⟨(a ++ b).toArray⟩ := by
 apply ByteArray.ext
 simp
def BY (W : World) (b : Nat) (l : List UInt8) : Prop := ∀ (j : Nat) (h : j < l.length), W.cell? ⟨b, j, none⟩ = some (.int .u8 (l[j].toNat : Int)) ∧ W.frozen? ⟨b, j, none⟩ = false
theorem BY.set {W : World} {b : Nat} {l : List UInt8} (h : BY W b l) (i : Nat) (hi : i < l.length) (x : UInt8) : BY (W.setCell ⟨b, i, none⟩ (.int .u8 (x.toNat : Int))) b (l.set i x) := by
 intro j hj;rw [List.length_set] at hj;obtain ⟨h1, h2⟩ := h j hj;refine ⟨?_, by rw [World.frozen?_setCell]; exact h2⟩
 by_cases e : i = j
 · subst e
   rw [List.getElem_set_self]
   exact World.cell?_setCell_same _ _ _ (h i hi).1
 · rw [List.getElem_set_ne e]
   exact (World.cell?_setCell_other _ _ _ _ (by intro e2; injection e2 with _ e2 _; exact e e2)).trans h1
theorem BY.new (W : World) (s : ByteArray) : BY (Lib.bytesWorld W 5 s) W.heap.size s.data.toList := by
 intro j hj
 have hj' : j < s.size := by rw [Array.length_toList] at hj; exact hj
 refine ⟨?_, ?_⟩
 · rw [Lib.bytesWorld_cell W 5 s j hj']
   rw [List.getD_eq_getElem?_getD, List.getElem?_eq_getElem hj]
   rfl
 · have hb := Lib.bytesWorld_at_new W 5 s
   have hsz : j < (Lib.bytesCells W 5 s).size := by
    have := Lib.bytesWorld_cell W 5 s j hj';rw [Lib.cell_of_heap hb] at this
    exact (Array.getElem?_eq_some_iff.1 this).1
   simp only [World.frozen?, hb, Bool.and_eq_false_iff, decide_eq_false_iff_not]
   left
   omega
theorem BY.str {W : World} {b : Nat} {l : List UInt8} (h : BY W b l) (cap : Nat) : (convert 66 9 (.slice (some ⟨b, 0, none⟩) l.length cap)).run Tryz.prog W = .ok (.string ⟨l.toArray⟩) W := by
 have hl : (l.map fun c => (c.toNat : Int)).length = l.length := by simp
 rw [run_convert_bytes_arg (w := W) 66 5 Tryz.underlying66 Tryz.underlying5 b 0 l.length cap (l.map fun c => (c.toNat : Int)) hl (fun i hi => by
  rw [Nat.zero_add, (h i hi).1]
  simp [List.getD_eq_getElem?_getD, hi]) 9 Tryz.underlying9]
 congr 2
 unfold strOfNums
 congr 2
 rw [List.map_map]
 conv => rhs; rw [← List.map_id l]
 apply List.map_congr_left
 intro c _
 simp
def tb (lo hi : UInt8) (d : Int) (c : UInt8) : UInt8 := if lo ≤ c ∧ c ≤ hi then UInt8.ofNat (((c.toNat : Int) + d) % 256).toNat else c
theorem tb_val (lo hi : UInt8) (d : Int) (c : UInt8) (hd : d = 32 ∨ d = -32) (h1 : lo.toNat ≤ c.toNat) (h2 : c.toNat ≤ hi.toNat) : wrap64 (wrap64 (c.toNat : Int) + d) % 256 = ((tb lo hi d c).toNat : Int) := by
 have hc := c.toNat_lt;have hh : lo ≤ c ∧ c ≤ hi := ⟨UInt8.le_iff_toNat_le.2 h1, UInt8.le_iff_toNat_le.2 h2⟩;unfold tb;rw [if_pos hh, UInt8.toNat_ofNat'];unfold wrap64
 rcases hd with rfl | rfl <;> omega
theorem tb_out (lo hi : UInt8) (d : Int) (c : UInt8) (h : ¬ (lo.toNat ≤ c.toNat ∧ c.toNat ≤ hi.toNat)) : tb lo hi d c = c := by
 unfold tb;rw [if_neg]
 rintro ⟨h1, h2⟩
 exact h ⟨UInt8.le_iff_toNat_le.1 h1, UInt8.le_iff_toNat_le.1 h2⟩
theorem tb_up (c : UInt8) (h1 : 97 ≤ (c.toNat : Int)) (h2 : (c.toNat : Int) ≤ 122) : (c.toNat : Int) - 32 = ((tb 97 122 (-32) c).toNat : Int) := by
 have h := tb_val 97 122 (-32) c (Or.inr rfl) (by show 97 ≤ c.toNat; omega) (by show c.toNat ≤ 122; omega);unfold wrap64 at h
 omega
def upL (l : List UInt8) : List UInt8 := l.map (tb 97 122 (-32))
def half (f : UInt8 → UInt8) (l : List UInt8) (k : Nat) : List UInt8 := (l.take k).map f ++ l.drop k
theorem vn (f : UInt8 → UInt8) (l : List UInt8) (k : Nat) : (half f l k).length = l.length := by simp only [half, List.length_append, List.length_map, List.length_take, List.length_drop]; omega
theorem half_at (f : UInt8 → UInt8) (l : List UInt8) (k : Nat) (h : k < l.length) : (half f l k)[k]'(by rw [vn]; exact h) = l[k] := by
 simp only [half];rw [List.getElem_append_right (by simp only [List.length_map, List.length_take]; omega)];simp only [List.length_map, List.length_take, List.getElem_drop]
 congr 1
 omega
theorem half_set (f : UInt8 → UInt8) (l : List UInt8) (k : Nat) (h : k < l.length) : (half f l k).set k (f l[k]) = half f l (k + 1) := by
 simp only [half];rw [List.set_append_right _ _ (by simp only [List.length_map, List.length_take]; omega)]
 have e : k - ((l.take k).map f).length = 0 := by simp only [List.length_map, List.length_take]; omega
 rw [e, List.drop_eq_getElem_cons h, List.set_cons_zero, List.take_succ_eq_append_getElem h, List.map_append, List.append_assoc]
 rfl
theorem half_keep (f : UInt8 → UInt8) (l : List UInt8) (k : Nat) (h : k < l.length) (hf : f l[k] = l[k]) : half f l (k + 1) = half f l k := by
 rw [← half_set f l k h, hf];have := half_at f l k h;rw [← this]
 simp
theorem half_zero (f : UInt8 → UInt8) (l : List UInt8) : half f l 0 = l := by simp [half]
theorem half_all (f : UInt8 → UInt8) (l : List UInt8) : half f l l.length = l.map f := by simp [half]
set_option maxHeartbeats 4000000 in
set_option maxRecDepth 100000 in
theorem turned_calls (s : ByteArray) (lo hi : UInt8) (d : Int) (w : World) (hs : s.size ≤ 1000000000) (hd : d = 32 ∨ d = -32) :
 Calls Tryz.prog 176 #[.string s, .int .u8 (lo.toNat : Int), .int .u8 (hi.toNat : Int), .int .i64 d] w fun e w' => e = .returned (.string (str (s.data.toList.map (tb lo hi d)))) ∧ Below w.heap.size w w' := by
 have kb := fun W => print_bytes (P := Tryz.prog) 9 66 5 Tryz.underlying9 Tryz.underlying66 Tryz.underlying5 s W
 have hsz : s.data.toList.length = s.size := by rw [Array.length_toList]; rfl
 have HN := Aside0.mk (BY.new w s);have HB := Aside0.mk (bytes_below (Below.refl w.heap.size w) (Nat.le_refl _) 5 s);have HS := Aside0.mk hsz;clear hsz
 go_enter Tryz.func176, Tryz.ntmps176
 go_wp2
 go_loopw [10, 11, 16] (fun ae af aa wr => ∃ k : Nat, k ≤ s.size ∧ aa = .int .i64 (k : Int) ∧ Aside0 (BY wr w.heap.size (half (tb lo hi d) s.data.toList k)) ∧ Aside0 (Below w.heap.size w wr)) (fun _ _ aa _ => s.size - (intOf aa).toNat)
 case atStart => exact ⟨0, Nat.zero_le _, rfl, ⟨by rw [half_zero]; exact HN.out⟩, HB⟩
 case round =>
  clear HN HB;obtain ⟨k, hk, rfl, HY, HB⟩ := hrel
  by_cases hlt : k < s.size
  · have d1 : decide ((k : Int) < (s.size : Int)) = true := decide_eq_true (by omega)
    have d9 : (k : Int) < (s.size : Int) := by omega
    have hkl : k < s.data.toList.length := by rw [HS.out]; exact hlt
    obtain ⟨g0, f0⟩ := HY.out k (by rw [vn]; exact hkl);rw [half_at _ _ _ hkl] at g0;have HT := Aside0.mk (half_set (tb lo hi d) s.data.toList k hkl);have HK := Aside0.mk (half_keep (tb lo hi d) s.data.toList k hkl);have HL := Aside0.mk (by rw [vn]; exact hkl : k < (half (tb lo hi d) s.data.toList k).length);generalize s.data.toList[k]'hkl = c at *;clear hkl;go_wp2
    all_goals go_roundw
    case rel =>
     have e := tb_val lo hi d c hd (by assumption) (by assumption);refine ⟨k + 1, by omega, by go_num, ⟨?_⟩, ⟨qg HB.out (Nat.le_refl _)⟩⟩;rw [e, ← HT.out]
     exact HY.out.set k HL.out _
    case measure => simp [intOf]; omega
    case rel => exact ⟨k + 1, by omega, by go_num, ⟨by rw [HK.out (tb_out lo hi d c (by omega))]; exact HY.out⟩, HB⟩
    case measure => simp [intOf]; omega
    case rel => exact ⟨k + 1, by omega, by go_num, ⟨by rw [HK.out (tb_out lo hi d c (by omega))]; exact HY.out⟩, HB⟩
    case measure => simp [intOf]; omega
  · have d1 : decide ((k : Int) < (s.size : Int)) = false := decide_eq_false (by omega)
    obtain rfl : k = s.size := by omega
    have hcv := fun cap => BY.str HY.out cap
    rw [vn, HS.out] at hcv;have HF : Aside0 (half (tb lo hi d) s.data.toList s.size = s.data.toList.map (tb lo hi d)) := ⟨by rw [← HS.out, half_all]⟩;rw [HF.out] at hcv;go_wp2
    go_ret
    exact ⟨rfl, HB.out⟩
set_option maxHeartbeats 4000000 in
set_option maxRecDepth 100000 in
theorem upper_calls (s : ByteArray) (w : World) (hs : s.size ≤ 1000000000) :
 Calls Tryz.prog 145 #[.string s] w fun e w' => e = .returned (.string (str (upL s.data.toList))) ∧ Below w.heap.size w w' := by
 have kb := fun W => print_bytes (P := Tryz.prog) 9 66 5 Tryz.underlying9 Tryz.underlying66 Tryz.underlying5 s W
 have hsz : s.data.toList.length = s.size := by rw [Array.length_toList]; rfl
 have HN := Aside0.mk (BY.new w s);have HB := Aside0.mk (bytes_below (Below.refl w.heap.size w) (Nat.le_refl _) 5 s);have HS := Aside0.mk hsz;clear hsz;unfold upL
 go_enter Tryz.func145, Tryz.ntmps145
 go_wp2
 go_loopw [4] (fun v4 wr => ∃ k : Nat, k ≤ s.size ∧ v4 = .int .i64 (k : Int) ∧ Aside0 (BY wr w.heap.size (half (tb 97 122 (-32)) s.data.toList k)) ∧ Aside0 (Below w.heap.size w wr)) (fun v4 _ => s.size - (intOf v4).toNat)
 case atStart => exact ⟨0, Nat.zero_le _, rfl, ⟨by rw [half_zero]; exact HN.out⟩, HB⟩
 case round =>
  clear HN HB;obtain ⟨k, hk, rfl, HY, HB⟩ := hrel
  by_cases hlt : k < s.size
  · have d1 : decide ((k : Int) < (s.size : Int)) = true := decide_eq_true (by omega)
    have d9 : (k : Int) < (s.size : Int) := by omega
    have hkl : k < s.data.toList.length := by rw [HS.out]; exact hlt
    obtain ⟨g0, f0⟩ := HY.out k (by rw [vn]; exact hkl);rw [half_at _ _ _ hkl] at g0;have HT := Aside0.mk (half_set (tb 97 122 (-32)) s.data.toList k hkl);have HK := Aside0.mk (half_keep (tb 97 122 (-32)) s.data.toList k hkl);have HL := Aside0.mk (by rw [vn]; exact hkl : k < (half (tb 97 122 (-32)) s.data.toList k).length);generalize s.data.toList[k]'hkl = c at *;clear hkl;go_wp2
    all_goals go_roundw
    case rel =>
     have e := tb_up c (by assumption) (by assumption);refine ⟨k + 1, by omega, by go_num, ⟨?_⟩, ⟨qg HB.out (Nat.le_refl _)⟩⟩;rw [e, ← HT.out]
     exact HY.out.set k HL.out _
    case measure => simp [intOf]; omega
    case rel => exact ⟨k + 1, by omega, by go_num, ⟨by rw [HK.out (tb_out 97 122 (-32) c (by show ¬ (97 ≤ c.toNat ∧ c.toNat ≤ 122); omega))]; exact HY.out⟩, HB⟩
    case measure => simp [intOf]; omega
    case rel => exact ⟨k + 1, by omega, by go_num, ⟨by rw [HK.out (tb_out 97 122 (-32) c (by show ¬ (97 ≤ c.toNat ∧ c.toNat ≤ 122); omega))]; exact HY.out⟩, HB⟩
    case measure => simp [intOf]; omega
  · have d1 : decide ((k : Int) < (s.size : Int)) = false := decide_eq_false (by omega)
    obtain rfl : k = s.size := by omega
    have hcv := fun cap => BY.str HY.out cap
    rw [vn, HS.out] at hcv;have HF : Aside0 (half (tb 97 122 (-32)) s.data.toList s.size = s.data.toList.map (tb 97 122 (-32))) := ⟨by rw [← HS.out, half_all]⟩;rw [HF.out] at hcv;go_wp2
    go_ret
    exact ⟨rfl, HB.out⟩
def zg.f (s : ByteArray) : Option ByteArray := if s.size ≤ 1000000000 then some (str (upL s.data.toList)) else none
theorem zg.calls (s : ByteArray) (r : ByteArray) (w : World) (h : zg.f s = some r) :
 Calls Tryz.prog 145 #[.string s] w fun e w' => e = .returned (.string r) ∧ Below w.heap.size w w' := by
 unfold zg.f at h
 by_cases hs : s.size ≤ 1000000000
 · rw [if_pos hs] at h
   injection h with h
   subst h
   exact upper_calls s w hs
 · rw [if_neg hs] at h
   cases h
abbrev kwS : ByteArray := ⟨#[32, 65, 78, 68, 32, 65, 83, 32, 65, 83, 67, 32, 66, 69, 71, 73, 78, 32, 66, 69, 84, 87, 69, 69, 78, 32, 66, 79, 79, 76, 32, 66, 89, 32, 67, 65, 83, 69, 32, 67, 72, 69, 67, 75, 32, 67, 72, 69, 67, 75, 80, 79, 73, 78, 84, 32, 67, 79, 77, 77, 73, 84, 32, 67, 79, 77, 77, 73, 84, 84, 69, 68, 32, 67, 79, 85, 78, 84, 32, 67, 82, 65, 83, 72, 32, 67, 82, 69, 65, 84, 69, 32, 67, 85, 84, 32, 68, 69, 76, 69, 84, 69, 32, 68, 69, 83, 67, 32, 68, 82, 65, 73, 78, 32, 68, 82, 79, 80, 32, 69, 76, 83, 69, 32, 69, 78, 68, 32, 70, 65, 76, 83, 69, 32, 70, 76, 85, 83, 72, 32, 70, 82, 79, 77, 32, 73, 78, 32, 73, 78, 83, 69, 82, 84, 32, 73, 78, 84, 32, 73, 78, 84, 79, 32, 73, 83, 32, 75, 69, 89, 32, 76, 73, 75, 69, 32, 76, 73, 77, 73, 84, 32, 77, 65, 88, 32, 77, 69, 82, 71, 69, 32, 77, 73, 78, 32, 78, 79, 84, 32, 78, 85, 76, 76, 32, 79, 82, 32, 79, 82, 68, 69, 82, 32, 80, 76, 65, 89, 32, 80, 82, 73, 77, 65, 82, 89, 32, 82, 69, 65, 68, 32, 82, 69, 80, 69, 65, 84, 65, 66, 76, 69, 32, 82, 69, 83, 84, 65, 82, 84, 32, 82, 79, 76, 76, 66, 65, 67, 75, 32, 83, 69, 76, 69, 67, 84, 32, 83, 69, 82, 73, 65, 76, 73, 90, 65, 66, 76, 69, 32, 83, 69, 84, 32, 83, 78, 65, 80, 83, 72, 79, 84, 32, 83, 85, 77, 32, 83, 89, 78, 67, 32, 84, 65, 66, 76, 69, 32, 84, 69, 88, 84, 32, 84, 72, 69, 78, 32, 84, 73, 67, 75, 32, 84, 82, 85, 69, 32, 85, 80, 68, 65, 84, 69, 32, 86, 65, 76, 85, 69, 83, 32, 87, 72, 69, 78, 32, 87, 72, 69, 82, 69, 32]⟩
def kwL : List UInt8 := kwS.data.toList
theorem kwS_size : kwS.size = 353 := by decide +kernel
theorem kwL_len : kwL.length = 353 := by unfold kwL; rw [Array.length_toList]; exact kwS_size
theorem kw_cut (k n : Nat) (h : k + n ≤ 353) : ∃ Y : ByteArray, (∀ W : World, (Instr.slice 9 (.string kwS) (some (.int .i64 (k : Int))) (some (.int .i64 ((k : Int) + (n : Int)))) none).run Tryz.prog W = .ok (.string Y) W) ∧ Y.toList = (kwL.drop k).take n := by
 refine ⟨kwS.extract k (k + n), ?_, ?_⟩
 · intro W
   rw [run_slice_string_if (P := Tryz.prog) (w := W) 9 kwS .i64 .i64 (k : Int) ((k : Int) + (n : Int)) Tryz.underlying9];rw [if_pos ⟨by omega, by rw [kwS_size]; omega⟩, if_pos ⟨by omega, by omega⟩]
   rfl
 · rw [ByteArray.toList_eq]
   rw [Lib.extract_data];unfold kwL
   congr 1
   omega
def kwB (l : List UInt8) : Bool := Lib.contains kwL (32 :: (l ++ [32]))
theorem occ_sub (s sub : List UInt8) (i : Nat) (h : i + sub.length ≤ s.length) : Lib.occAt s sub i = ((s.drop i).take sub.length == sub) := by
 unfold Lib.occAt;rw [Bool.eq_iff_iff, List.isPrefixOf_iff_prefix, List.prefix_iff_eq_take, beq_iff_eq]
 exact eq_comm
theorem occ_far (s sub : List UInt8) (i : Nat) (h0 : 0 < sub.length) (h : s.length < i + sub.length) : Lib.occAt s sub i = false := by
 unfold Lib.occAt;rw [Bool.eq_false_iff];intro hp;have := (List.isPrefixOf_iff_prefix.1 hp).length_le;rw [List.length_drop] at this
 omega
theorem kw_yes (l : List UInt8) (i : Nat) (hi : i + (l.length + 2) ≤ 353) (h : Lib.occAt kwL (32 :: (l ++ [32])) i = true) : kwB l = true := by
 unfold kwB Lib.contains;rw [decide_eq_true_eq]
 rcases Lib.index_spec kwL (32 :: (l ++ [32])) with ⟨h1, h2⟩ | ⟨j, h1, _⟩
 · have := h2 i (by rw [kwL_len]; omega)
   rw [h] at this
   cases this
 · omega
theorem kw_no (l : List UInt8) (k : Nat) (hk : 353 < k + (l.length + 2)) (h : ∀ j, j < k → Lib.occAt kwL (32 :: (l ++ [32])) j = false) : kwB l = false := by
 unfold kwB Lib.contains;rw [decide_eq_false_iff_not];rw [Lib.index_none]
 · decide
 · intro j _
   by_cases hj : j < k
   · exact h j hj
   · apply occ_far _ _ _ (by simp)
     rw [kwL_len];simp only [List.length_cons, List.length_append, List.length_nil]
     omega
theorem sp_str (s : ByteArray) : (⟨#[32]⟩ : ByteArray) ++ s ++ (⟨#[32]⟩ : ByteArray) = str (32 :: (s.data.toList ++ [32])) := by
 apply ByteArray.ext
 simp
set_option maxHeartbeats 4000000 in
set_option maxRecDepth 100000 in
theorem keyword_calls (s : ByteArray) (w : World) (hs : s.size ≤ 1000000000) :
 Calls Tryz.prog 144 #[.string s] w fun e w' => e = .returned (.bool (kwB s.data.toList)) ∧ w = w' := by
 have hsz : s.data.toList.length = s.size := by rw [Array.length_toList]; rfl
 have HS := Aside0.mk hsz;have HX := Aside0.mk (sp_str s);clear hsz
 go_enter Tryz.func144, Tryz.ntmps144
 go_upto_region 2 with (fail)
 generalize hX : (⟨#[32]⟩ : ByteArray) ++ s ++ (⟨#[32]⟩ : ByteArray) = X at *
 have aa : X.data.toList = 32 :: (s.data.toList ++ [32]) := by rw [HX.out]
 have hxs : X.size = s.size + 2 := by
  have : X.data.toList.length = X.size := by rw [Array.length_toList]; rfl
  rw [← this, aa];simp only [List.length_cons, List.length_append, List.length_nil, HS.out]
 have ab := Aside0.mk aa;have HXS := Aside0.mk hxs
 have hxb : X.size ≤ 1000000002 := by omega
 clear HX aa hxs hX;go_wp2
 go_loop [4] (fun v4 => ∃ k : Nat, k ≤ 354 ∧ v4 = .int .i64 (k : Int) ∧ Aside0 (∀ j, j < k → Lib.occAt kwL (32 :: (s.data.toList ++ [32])) j = false)) (fun v4 => 400 - (intOf v4).toNat)
 case atStart => exact ⟨0, Nat.zero_le _, rfl, ⟨fun j hj => absurd hj (Nat.not_lt_zero j)⟩⟩
 case round =>
  obtain ⟨k, hk, rfl, HJ⟩ := hrel
  by_cases hlt : k + X.size ≤ 353
  · have d1 : decide ((k : Int) + (X.size : Int) ≤ 353) = true := decide_eq_true (by omega)
    obtain ⟨Y, hY, hYl⟩ : ∃ Y : ByteArray, (∀ W : World, (Instr.slice 9 (.string kwS) (some (.int .i64 (k : Int))) (some (.int .i64 ((k : Int) + (X.size : Int)))) none).run Tryz.prog W = .ok (.string Y) W) ∧ Y.toList = (kwL.drop k).take X.size := kw_cut k X.size hlt;have ho := occ_sub kwL (32 :: (s.data.toList ++ [32])) k (by rw [kwL_len]; have := HXS.out; have := HS.out; simp only [List.length_cons, List.length_append, List.length_nil]; omega)
    have ac : (32 :: (s.data.toList ++ [32])).length = X.size := by have := HXS.out; have := HS.out; simp only [List.length_cons, List.length_append, List.length_nil]; omega
    rw [ac, ← hYl, ← ab.out, ← ByteArray.toList_eq] at ho;have HOc := Aside0.mk ho;clear ho hYl ac;have ae := Aside0.mk (show X.toList = 32 :: (s.data.toList ++ [32]) from (ByteArray.toList_eq X).trans ab.out)
    by_cases hc : Y.toList = X.toList
    · have b1 : (Y.toList == X.toList) = true := beq_iff_eq.2 hc
      have HR : Aside0 (kwB s.data.toList = true) := ⟨kw_yes s.data.toList k (by have := HXS.out; have := HS.out; omega) (by rw [← ae.out]; exact HOc.out.trans b1)⟩;clear hc;go_wp2
      go_ret
      exact ⟨by rw [HR.out]; rfl, rfl⟩
    · have b1 : (Y.toList == X.toList) = false := by rw [beq_eq_false_iff_ne]; exact hc
      have HR : Aside0 (Lib.occAt kwL (32 :: (s.data.toList ++ [32])) k = false) := ⟨by rw [← ae.out]; exact HOc.out.trans b1⟩;clear hc;go_wp2
      go_round
      case rel =>
       refine ⟨k + 1, by omega, by go_num, ⟨fun j hj => ?_⟩⟩
       by_cases e : j = k
       · rw [e]; exact HR.out
       · exact HJ.out j (by omega)
      case measure => simp [intOf]; omega
  · have d1 : decide ((k : Int) + (X.size : Int) ≤ 353) = false := decide_eq_false (by omega)
    go_wp2
    go_ret
    exact ⟨by rw [kw_no s.data.toList k (by have := HXS.out; rw [HS.out]; omega) HJ.out]; rfl, rfl⟩
def za.f (s : ByteArray) : Option Bool := if s.size ≤ 1000000000 then some (kwB s.data.toList) else none
theorem za.calls (s : ByteArray) (r : Bool) (w : World) (h : za.f s = some r) :
 Calls Tryz.prog 144 #[.string s] w fun e w' => e = .returned (.bool r) ∧ Below w.heap.size w w' := by
 unfold za.f at h
 by_cases hs : s.size ≤ 1000000000
 · rw [if_pos hs] at h
   injection h with h
   subst h
   exact (keyword_calls s w hs).mono (by rintro e w' ⟨rfl, rfl⟩; exact ⟨rfl, Below.refl _ _⟩)
 · rw [if_neg hs] at h
   cases h
def zZ.f (a0 : Int) : Option (Bool) := if 48 ≤ a0 then (some (decide (a0 ≤ 57))) else (some false)
set_option maxHeartbeats 8000000 in
set_option maxRecDepth 100000 in
theorem zZ.calls (a0 : Int) (r : Bool) (w : World) (h : zZ.f a0 = some r) :
 Calls Tryz.prog 161 #[.int .u8 a0] w fun e w' => e = .returned (.bool r) ∧ qt w w' := by
 have H : (if 48 ≤ a0 then (some (decide (a0 ≤ 57))) else (some false)) = some r := h;clear h
 by_cases c2 : 48 ≤ a0
 · rw [if_pos c2] at H
   have ab : decide (48 ≤ a0) = true := decide_eq_true c2;clear c2;obtain rfl := Option.some.inj H
   go_enter Tryz.func161, Tryz.ntmps161
   go_wp2
   go_ret
   exact ⟨by first | rfl | (simp; done) | (simp [*]; done), by repeat (first | exact qt.refl _ | apply qt.step)⟩
 · rw [if_neg c2] at H
   have ab : decide (48 ≤ a0) = false := decide_eq_false c2;clear c2;obtain rfl := Option.some.inj H
   go_enter Tryz.func161, Tryz.ntmps161
   go_wp2
   go_ret
   exact ⟨by first | rfl | (simp; done) | (simp [*]; done), by repeat (first | exact qt.refl _ | apply qt.step)⟩
end Go.Proofs.YtfmgbgkcmmpcfaaGreatDoor.PTk

