import Derived.Test.YtggbhdcgfnjogaaDoorQPPlx0
import Derived.Test.YtggbhdcgfnjogaaDoorQPPlx6
import Derived.Test.YtggbhdcgfnjogaaDoorQPPlx11
import Derived.Test.YtggbhdcgfnjogaaDoorQPPlx12
namespace Go.Proofs.YtggbhdcgfnjogaaDoor.PPl
open Go.RowKit Go.Proofs.YtggbhdcgfnjogaaDoorW.PrintWords Go.Proofs.YtggbhdcgfnjogaaDoorW.PrintLast Go.Proofs.YtggbhdcgfnjogaaDoorW.PrintMore
set_option linter.unusedVariables false
set_option linter.unusedSimpArgs false
theorem strOfNums_app (a b : List Int) : strOfNums a ++ strOfNums b = strOfNums (a ++ b) := by
 apply ByteArray.ext
 simp [strOfNums]
theorem strOfNums_bytes (s : ByteArray) : strOfNums (bytesOf s) = s := by
 apply ByteArray.ext
 apply Array.toList_inj.1
 rw [strOfNums_data]
 simp [bytesOf, List.map_map, Function.comp_def]
theorem grp_full (l : List S84) (i j : Nat) (hi : i ≤ l.length) (h : i = l.length ∨ i = 4 * j + 4) : grp l i j = grp l l.length j := by
 rcases h with rfl | rfl
 · rfl
 · unfold grp
   simp only [show ¬ (4 * j + 4 ≤ 4 * j) by omega, show ¬ (4 * j + 4 ≤ 4 * j + 1) by omega, show ¬ (4 * j + 4 ≤ 4 * j + 2) by omega, show ¬ (4 * j + 4 ≤ 4 * j + 3) by omega, show ¬ (l.length ≤ 4 * j) by omega, show ¬ (l.length ≤ 4 * j + 1) by omega, show ¬ (l.length ≤ 4 * j + 2) by omega, show ¬ (l.length ≤ 4 * j + 3) by omega, if_false]
theorem grp_bd (l : List S84) (i j : Nat) (hi : i ≤ l.length) (hg : ∀ k, k < l.length → 0 ≤ (rd_T84 l (k : Int)).f0 ∧ (rd_T84 l (k : Int)).f0 < 4) : 0 ≤ grp l i j ∧ grp l i j ≤ 255 := by
 have h : ∀ q, 0 ≤ (if i ≤ q then 0 else (rd_T84 l ((q : Nat) : Int)).f0) ∧ (if i ≤ q then 0 else (rd_T84 l ((q : Nat) : Int)).f0) < 4 := by
  intro q
  split
  · omega
  · exact hg q (by omega)
 have h4 : ∀ (q : Nat) (c : Int), (if i ≤ q then 0 else c * (rd_T84 l ((q : Nat) : Int)).f0) = c * (if i ≤ q then 0 else (rd_T84 l ((q : Nat) : Int)).f0) := by
  intro q c
  split <;> simp
 have h0 := h (4 * j)
 have h1 := h (4 * j + 1)
 have h2 := h (4 * j + 2)
 have h3 := h (4 * j + 3)
 unfold grp
 rw [h4, h4, h4]
 omega
theorem one_string (W : World) (x : Int) : (convert 66 9 (.slice (some ⟨W.heap.size, 0, none⟩) 1 1)).run Tryd.prog (W.alloc (.cells #[.int .u8 x] 5)) = .ok (.string (strOfNums [x])) (W.alloc (.cells #[.int .u8 x] 5)) := by
 have h2 := World.ownsRow_lit (base := W.heap.size) (e := 5) (size := 1) W #[.int .u8 x] 1 (Nat.le_refl _) (by simp [maxLen]) (by simp)
 exact own_string (P := Tryd.prog) (src := 66) (dst := 9) Tryd.underlying66 Tryd.underlying5 Tryd.underlying9 (xs := [x]) h2
theorem hdB_take (l : List S84) (j : Nat) (hj : j < (l.length + 3) / 4) : (hdB l l.length).take (1 + (j + 1)) = (hdB l l.length).take (1 + j) ++ [grp l l.length j] := by
 rw [show 1 + (j + 1) = (1 + j) + 1 by omega, List.take_succ_eq_append_getElem (by rw [hdB_length]; omega)]
 congr 2
 simp only [hdB, show 1 + j = j + 1 by omega, List.getElem_cons_succ, List.getElem_map, List.getElem_range]
theorem ref_svar (i : Int) (h0 : -9223372036854775808 ≤ i) (h1 : i ≤ 9223372036854775807) : strataref01_Svarint.f i = some (strOfNums (uv 10 (zz i))) := by
 have hU : ∀ x, 0 ≤ x → x < 18446744073709551616 → strataref01_Uvarint.f x = some (strOfNums (uv 10 x)) := fun x a b => by unfold strataref01_Uvarint.f bits_Uvarint.f; rw [if_pos ⟨a, b⟩]
 unfold strataref01_Svarint.f
 by_cases h : i ≥ 0
 · rw [if_pos h]
   have e : IntKind.u64.wrap (2 * IntKind.u64.wrap i) = zz i := by unfold zz; rw [if_pos h]; simp [IntKind.wrap, IntKind.signed, IntKind.bits]; omega
   rw [e, hU _ (by unfold zz; split <;> omega) (by unfold zz; split <;> omega)]
   rfl
 · rw [if_neg h]
   have e : IntKind.u64.wrap (IntKind.u64.wrap (2 * IntKind.u64.wrap (wrap64 (-1 - i))) + 1) = zz i := by unfold zz; rw [if_neg (by omega)]; simp [IntKind.wrap, IntKind.signed, IntKind.bits, wrap64]; omega
   rw [e, hU _ (by unfold zz; split <;> omega) (by unfold zz; split <;> omega)]
   rfl
def strataref01_Row.f (k : Nat) (l : List S84) : Option (ByteArray × Int) :=
 (strataref01_faults.f k l).bind fun e => if e = 0 then (if goodVals l then some (strOfNums (rowB l), 0) else none) else some (⟨#[]⟩, e)
set_option maxHeartbeats 4000000 in
set_option maxRecDepth 100000 in
theorem strataref01_Row.calls (k : Nat) (A0 : Option Addr) (c0 : Nat) (l0 : List (S84)) (r1 : ByteArray) (r2 : Int) (w : World) (hr0 : Kd.C k84 w A0 l0.length l0) (hc0 : l0.length ≤ c0) (h : strataref01_Row.f k l0 = some (r1, r2)) :
 Calls Tryd.prog 42 #[.slice A0 l0.length c0] w fun e w' => e = .returned (.tuple #[.string r1, .int .i64 r2]) ∧ Below w.heap.size w w' := by
 unfold strataref01_Row.f at h
 obtain ⟨e0, he0, h⟩ := Option.bind_eq_some_iff.1 h
 have HE := Aside0.mk he0
 have HR0 := Aside0.mk hr0
 clear he0 hr0
 by_cases hz : e0 = 0
 case neg =>
  rw [if_neg hz] at h
  simp only [Option.some.injEq, Prod.mk.injEq] at h
  obtain ⟨rfl, rfl⟩ := h
  have d1 : (e0 != 0) = true := by simpa using hz
  go_enter Tryd.func42, Tryd.ntmps42
  go_wp2_with (first | (go_at_call 77; refine (strataref01_faults.calls k A0 c0 l0 e0 _ HR0.out hc0 HE.out).mono ?_; rintro e w1 ⟨rfl, hb⟩))
  go_ret2
  exact ⟨rfl, hb⟩
 subst hz
 rw [if_pos rfl] at h
 by_cases hg : goodVals l0
 case neg => rw [if_neg hg] at h; exact absurd h (by simp)
 rw [if_pos hg] at h
 simp only [Option.some.injEq, Prod.mk.injEq] at h
 obtain ⟨hr, rfl⟩ := h
 have Hr := Aside0.mk hr
 have HGV := Aside0.mk hg
 have hl16 : l0.length ≤ 16 := hg.1
 have hg4 : ∀ k, k < l0.length → 0 ≤ (rd_T84 l0 (k : Int)).f0 ∧ (rd_T84 l0 (k : Int)).f0 < 4 := fun k hk => ⟨(goodVals_at hg k hk).1, (goodVals_at hg k hk).2.1⟩
 have HG4 := Aside0.mk hg4
 clear hr hg hg4
 have hos := one_string
 have hxm : (l0.length : Int) % 256 = (l0.length : Int) := by omega
 go_enter Tryd.func42, Tryd.ntmps42
 go_wp2_with (first | (go_at_call 77; refine (strataref01_faults.calls k A0 c0 l0 0 _ HR0.out hc0 HE.out).mono ?_; rintro e w1 ⟨rfl, hb⟩; have HB1 := Aside0.mk hb; clear hb))
 clear hxm
 go_loopg [5, 6] 100 (fun gk v5 v6 wr => ∃ (j : Nat), j ≤ (l0.length + 3) / 4 ∧ v5 = .string (strOfNums ((hdB l0 l0.length).take (1 + j))) ∧ v6 = .int .i64 ((4 * j : Nat) : Int) ∧ Aside0 (gk + 10 * j = 100) ∧ Aside0 (Below w.heap.size w wr))
 case atStart => exact ⟨0, Nat.zero_le _, rfl, rfl, ⟨rfl⟩, ⟨below_alloc HB1.out _⟩⟩
 case round =>
  clear HB1
  obtain ⟨j, hj, rfl, rfl, HK, HB⟩ := hrel
  obtain ⟨ii, hii⟩ : ∃ ii : Nat, 4 * j = ii := ⟨_, rfl⟩
  rw [hii]
  have HII := Aside0.mk hii
  clear hii
  have hii16 : ii ≤ 19 := by have := HII.out; omega
  by_cases hlt : j < (l0.length + 3) / 4
  · have hi : ii < l0.length := by have := HII.out; omega
    have d1 : decide ((ii : Int) < (l0.length : Int)) = true := decide_eq_true (by omega)
    have d2 : decide (ii < l0.length) = true := decide_eq_true hi
    have HT := Aside0.mk (hdB_take l0 j hlt)
    cases gk with
    | zero => exact absurd HK.out (by omega)
    | succ g1 =>
    go_wp2
    clear d1 d2
    go_loopg [7, 8, 9] g1 (fun gk v7 v8 v9 wr => ∃ (m : Nat) (W : Int), m ≤ 4 ∧ v7 = .int .i64 (grp l0 (ii + m) j) ∧ v8 = .int .i64 W ∧ v9 = .int .i64 ((ii + m : Nat) : Int) ∧ Aside0 (ii + m ≤ l0.length) ∧ Aside0 ((m = 0 ∧ W = 1) ∨ (m = 1 ∧ W = 4) ∨ (m = 2 ∧ W = 16) ∨ (m = 3 ∧ W = 64) ∨ (m = 4 ∧ W = 256)) ∧ Aside0 (gk + m = g1) ∧ Aside0 (Below w.heap.size w wr))
    case atStart =>
     refine ⟨0, 1, by omega, ?_, rfl, rfl, ⟨by omega⟩, ⟨by omega⟩, ⟨rfl⟩, HB⟩
     congr 1
     unfold grp
     rw [Nat.add_zero, if_pos (by have := HII.out; omega), if_pos (by have := HII.out; omega), if_pos (by have := HII.out; omega), if_pos (by have := HII.out; omega)]
     rfl
    case round =>
     clear HB
     obtain ⟨m, W, hm, rfl, rfl, rfl, HIM, HW, HG, HB⟩ := hrel
     obtain ⟨kk, hkk⟩ : ∃ kk : Nat, ii + m = kk := ⟨_, rfl⟩
     rw [hkk] at HIM ⊢
     have HKK := Aside0.mk hkk
     clear hkk
     have hkl16 : kk ≤ 16 := by have := HIM.out; omega
     by_cases hin : m < 4 ∧ kk < l0.length
     · obtain ⟨hm4, hkl⟩ := hin
       have d1 : decide ((kk : Int) < (ii : Int) + 4) = true := decide_eq_true (by have := HKK.out; omega)
       have d2 : decide ((kk : Int) < (l0.length : Int)) = true := decide_eq_true (by omega)
       have d3 : decide (kk < l0.length) = true := decide_eq_true hkl
       obtain ⟨ad, e1, h0, h1, h2⟩ := at_T84 HR0.out (kk : Int) (by omega) (by omega)
       cases e1
       simp only [Int.toNat_natCast] at h0 h1 h2
       replace h0 := (HB.out.cell (World.block_lt_of_cell? w _ h0)).trans h0
       clear h1 h2
       obtain ⟨q0, q1, q2⟩ := grp_step l0 kk HG4.out hkl
       obtain ⟨p0, p1⟩ := HG4.out kk hkl
       rw [show kk / 4 = j by have := HKK.out; have := HII.out; omega] at q0 q1 q2
       rw [show kk % 4 = m by have := HKK.out; have := HII.out; omega] at q1 q2
       generalize (rd_T84 l0 (kk : Int)).f0 = x0 at *
       generalize grp l0 kk j = G0 at *
       cases gk with
       | zero =>
        exfalso
        have a1 := HG.out
        have a2 := HK.out
        omega
       | succ g2 =>
       rcases HW.out with ⟨rfl, rfl⟩ | ⟨rfl, rfl⟩ | ⟨rfl, rfl⟩ | ⟨rfl, rfl⟩ | ⟨rfl, rfl⟩
       · have HN : Aside0 (grp l0 (ii + (0 + 1)) j = G0 + x0) := ⟨by rw [show ii + (0 + 1) = kk + 1 by have := HKK.out; omega, q2]; omega⟩
         have hG64 : G0 < 1 := by simpa using q1
         clear q1 q2 HW
         go_wp2
         go_roundg g2
         case measure => omega
         case rel => exact ⟨0 + 1, 4, by omega, by first | rw [HN.out] | (congr 1; have := HN.out; omega), by first | rfl | simp, by congr 1; have := HKK.out; omega, ⟨by have := HKK.out; omega⟩, ⟨by omega⟩, ⟨by have := HG.out; omega⟩, HB⟩
       · have HN : Aside0 (grp l0 (ii + (1 + 1)) j = G0 + 4 * x0) := ⟨by rw [show ii + (1 + 1) = kk + 1 by have := HKK.out; omega, q2]; omega⟩
         have hG64 : G0 < 4 := by simpa using q1
         clear q1 q2 HW
         go_wp2
         go_roundg g2
         case measure => omega
         case rel => exact ⟨1 + 1, 16, by omega, by first | rw [HN.out] | (congr 1; have := HN.out; omega), by first | rfl | simp, by congr 1; have := HKK.out; omega, ⟨by have := HKK.out; omega⟩, ⟨by omega⟩, ⟨by have := HG.out; omega⟩, HB⟩
       · have HN : Aside0 (grp l0 (ii + (2 + 1)) j = G0 + 16 * x0) := ⟨by rw [show ii + (2 + 1) = kk + 1 by have := HKK.out; omega, q2]; omega⟩
         have hG64 : G0 < 16 := by simpa using q1
         clear q1 q2 HW
         go_wp2
         go_roundg g2
         case measure => omega
         case rel => exact ⟨2 + 1, 64, by omega, by first | rw [HN.out] | (congr 1; have := HN.out; omega), by first | rfl | simp, by congr 1; have := HKK.out; omega, ⟨by have := HKK.out; omega⟩, ⟨by omega⟩, ⟨by have := HG.out; omega⟩, HB⟩
       · have HN : Aside0 (grp l0 (ii + (3 + 1)) j = G0 + 64 * x0) := ⟨by rw [show ii + (3 + 1) = kk + 1 by have := HKK.out; omega, q2]; omega⟩
         have hG64 : G0 < 64 := by simpa using q1
         clear q1 q2 HW
         go_wp2
         go_roundg g2
         case measure => omega
         case rel => exact ⟨3 + 1, 256, by omega, by first | rw [HN.out] | (congr 1; have := HN.out; omega), by first | rfl | simp, by congr 1; have := HKK.out; omega, ⟨by have := HKK.out; omega⟩, ⟨by omega⟩, ⟨by have := HG.out; omega⟩, HB⟩
       · exact absurd hm4 (by omega)
     · have hgf := grp_full l0 kk j HIM.out (by have := HIM.out; have := HKK.out; have := HII.out; omega)
       obtain ⟨b0, b1⟩ := grp_bd l0 l0.length j (Nat.le_refl _) HG4.out
       rw [hgf]
       have HT2 := HT
       clear hgf
       generalize grp l0 l0.length j = G at *
       have hxm : G % 256 = G := by omega
       obtain ⟨S, hS⟩ : ∃ S, strOfNums ((hdB l0 l0.length).take (1 + j)) = S := ⟨_, rfl⟩
       obtain ⟨Y, hY⟩ : ∃ Y, strOfNums [G] = Y := ⟨_, rfl⟩
       have hSs : S.size ≤ 1000 := by rw [← hS, strOfNums_size, List.length_take, hdB_length]; omega
       have hYs : Y.size = 1 := by rw [← hY, strOfNums_size]; rfl
       have hosG : ∀ W, _ := fun W => one_string W G
       rw [hY] at hosG
       rw [hS]
       have c1 : S.size + Y.size ≤ 9223372036854775807 := by omega
       have c10 := eq_true c1
       have c11 : decide (S.size + Y.size ≤ 9223372036854775807) = true := decide_eq_true c1
       have c12 : (9223372036854775807 < S.size + Y.size) = False := eq_false (Nat.not_lt.2 c1)
       clear c1
       clear hSs hYs hos
       have HS := Aside0.mk hS
       have HY := Aside0.mk hY
       clear hS hY
       by_cases hm4 : m < 4
       · have d1 : decide ((kk : Int) < (ii : Int) + 4) = true := decide_eq_true (by have := HKK.out; omega)
         have d2 : decide ((kk : Int) < (l0.length : Int)) = false := decide_eq_false (by omega)
         have d3 : decide (kk < l0.length) = false := decide_eq_false (by omega)
         clear hin
         go_wp2
         go_roundg (g1 - 9)
         case measure => omega
         case rel => exact ⟨j + 1, by omega, by rw [HT.out, ← strOfNums_app, HS.out, HY.out], by congr 1; have := HII.out; omega, ⟨by have := HK.out; omega⟩, ⟨below_alloc HB.out _⟩⟩
       · have d1 : decide ((kk : Int) < (ii : Int) + 4) = false := decide_eq_false (by have := HKK.out; omega)
         clear hin
         go_wp2
         go_roundg (g1 - 9)
         case measure => omega
         case rel => exact ⟨j + 1, by omega, by rw [HT.out, ← strOfNums_app, HS.out, HY.out], by congr 1; have := HII.out; omega, ⟨by have := HK.out; omega⟩, ⟨below_alloc HB.out _⟩⟩
  · obtain rfl : j = (l0.length + 3) / 4 := by omega
    have hi : ¬ ii < l0.length := by have := HII.out; omega
    have d1 : decide ((ii : Int) < (l0.length : Int)) = false := decide_eq_false (by omega)
    have d2 : decide (ii < l0.length) = false := decide_eq_false hi
    rw [List.take_of_length_le (by rw [hdB_length]; exact Nat.le_refl _)]
    go_wp2
    clear d1 d2 hi hlt hj HK HII hii16
    go_loopg [5, 10] (l0.length + 1) (fun gk v5 v10 wr => ∃ (n : Nat), n ≤ l0.length ∧ v5 = .string (strOfNums (hdB l0 l0.length ++ (l0.take n).flatMap colV)) ∧ v10 = .int .i64 (n : Int) ∧ Aside0 (gk + n = l0.length + 1) ∧ Aside0 (Below w.heap.size w wr))
    case atStart => exact ⟨0, Nat.zero_le _, by simp, rfl, ⟨rfl⟩, HB⟩
    case round =>
     clear HB
     obtain ⟨n, hn, rfl, rfl, HK, HB⟩ := hrel
     cases gk with
     | zero => exact absurd HK.out (by omega)
     | succ gq =>
     by_cases hlt : n < l0.length
     · have d1 : decide ((n : Int) < (l0.length : Int)) = true := decide_eq_true (by omega)
       have d2 : decide (n < l0.length) = true := decide_eq_true hlt
       obtain ⟨ad, e1, h0, h1, h2⟩ := at_T84 HR0.out (n : Int) (by omega) (by omega)
       cases e1
       simp only [Int.toNat_natCast] at h0 h1 h2
       replace h0 := (HB.out.cell (World.block_lt_of_cell? w _ h0)).trans h0
       replace h1 := (HB.out.cell (World.block_lt_of_cell? w _ h1)).trans h1
       replace h2 := (HB.out.cell (World.block_lt_of_cell? w _ h2)).trans h2
       have HT : Aside0 (strOfNums (hdB l0 l0.length ++ (l0.take (n + 1)).flatMap colV) = strOfNums (hdB l0 l0.length ++ (l0.take n).flatMap colV) ++ strOfNums (colV (rd_T84 l0 (n : Int)))) := ⟨by rw [rd_take (l := l0) colV n hlt, strOfNums_app, List.append_assoc]⟩
       have HX := Aside0.mk (goodVals_at HGV.out n hlt)
       generalize rd_T84 l0 (n : Int) = x at *
       obtain ⟨x0, x1, x2⟩ := x
       obtain ⟨g0, g1, g2, g3, g4⟩ := HX.out
       simp only at g0 g1 g2 g3 g4 h0 h1 h2
       clear HX
       have hk4 : x0 = 0 ∨ x0 = 1 ∨ x0 = 2 ∨ x0 = 3 := by omega
       clear g0 g1
       have hsz : x2.size ≤ 1000000 := by omega
       obtain ⟨S, hS⟩ : ∃ S, strOfNums (hdB l0 l0.length ++ (l0.take n).flatMap colV) = S := ⟨_, rfl⟩
       have hSs : S.size ≤ 400000 := by
        rw [← hS, strOfNums_size, List.length_append]
        have hh := flat_len (l := l0.take n) colV 20000 (fun x hx => colV_len x (HGV.out.2 x (List.mem_of_mem_take hx)))
        have : (l0.take n).length ≤ 16 := by simp; omega
        have := hdB_length l0 l0.length
        omega
       rw [hS] at HT ⊢
       clear hS
       have HI2 := Aside0.mk (And.intro g2 g3)
       clear g2 g3
       rcases hk4 with rfl | rfl | rfl | rfl
       · have HT2 : Aside0 (strOfNums (hdB l0 l0.length ++ (l0.take (n + 1)).flatMap colV) = S) := ⟨by rw [HT.out]; show S ++ strOfNums [] = S; apply ByteArray.ext; simp [strOfNums]⟩
         clear HT
         go_wp2
         go_roundg gq
         case measure => omega
         case rel => exact ⟨n + 1, by omega, by rw [HT2.out], by go_num, ⟨by have := HK.out; omega⟩, HB⟩
       · obtain ⟨Y, hY⟩ : ∃ Y, strOfNums [x1 % 256] = Y := ⟨_, rfl⟩
         have HT2 : Aside0 (strOfNums (hdB l0 l0.length ++ (l0.take (n + 1)).flatMap colV) = S ++ Y) := ⟨by rw [HT.out, ← hY]; rfl⟩
         have hYs : Y.size = 1 := by rw [← hY, strOfNums_size]; rfl
         have hosG : ∀ W, _ := fun W => one_string W (x1 % 256)
         rw [hY] at hosG
         have c1 : S.size + Y.size ≤ 9223372036854775807 := by omega
         have c10 := eq_true c1
         have c11 : decide (S.size + Y.size ≤ 9223372036854775807) = true := decide_eq_true c1
         have c12 : (9223372036854775807 < S.size + Y.size) = False := eq_false (Nat.not_lt.2 c1)
         clear c1
         clear HT hY hYs hSs hos
         go_wp2
         go_roundg gq
         case measure => omega
         case rel => exact ⟨n + 1, by omega, by rw [HT2.out], by go_num, ⟨by have := HK.out; omega⟩, ⟨below_alloc HB.out _⟩⟩
       · obtain ⟨Y, hY⟩ : ∃ Y, strOfNums (uv 10 (zz x1)) = Y := ⟨_, rfl⟩
         have HT2 : Aside0 (strOfNums (hdB l0 l0.length ++ (l0.take (n + 1)).flatMap colV) = S ++ Y) := ⟨by rw [HT.out, ← hY]; rfl⟩
         have hYs : Y.size ≤ 10 := by rw [← hY, strOfNums_size]; exact uv_length 10 _
         have HSV := Aside0.mk (ref_svar x1 HI2.out.1 HI2.out.2)
         rw [hY] at HSV
         have c1 : S.size + Y.size ≤ 9223372036854775807 := by omega
         have c10 := eq_true c1
         have c11 : decide (S.size + Y.size ≤ 9223372036854775807) = true := decide_eq_true c1
         have c12 : (9223372036854775807 < S.size + Y.size) = False := eq_false (Nat.not_lt.2 c1)
         clear c1
         clear HT hY hYs hSs hos
         go_wp2_with (first | (go_at_call 79; go_must (refine (strataref01_Svarint.calls x1 _ _ HSV.out).mono ?_; rintro e w2 ⟨rfl, hb⟩)))
         go_roundg gq
         case measure => omega
         case rel => exact ⟨n + 1, by omega, by rw [HT2.out], by go_num, ⟨by have := HK.out; omega⟩, ⟨below_step HB.out hb⟩⟩
       · obtain ⟨Y, hY⟩ : ∃ Y, strOfNums (uv 10 (x2.size : Int)) = Y := ⟨_, rfl⟩
         have HT2 : Aside0 (strOfNums (hdB l0 l0.length ++ (l0.take (n + 1)).flatMap colV) = (S ++ Y) ++ x2) := ⟨by
          rw [HT.out, ← hY]
          show S ++ strOfNums (uv 10 (x2.size : Int) ++ bytesOf x2) = _
          rw [← strOfNums_app, strOfNums_bytes, ByteArray.append_assoc]⟩
         have hYs : Y.size ≤ 10 := by rw [← hY, strOfNums_size]; exact uv_length 10 _
         have eU : IntKind.u64.wrap (x2.size : Int) = (x2.size : Int) := by simp [IntKind.wrap, IntKind.signed, IntKind.bits]; omega
         have HU : Aside0 (strataref01_Uvarint.f (x2.size : Int) = some Y) := ⟨by rw [← hY]; unfold strataref01_Uvarint.f bits_Uvarint.f; rw [if_pos ⟨by omega, by omega⟩]⟩
         have hSY : (S ++ Y).size = S.size + Y.size := ByteArray.size_append
         have c1 : S.size + Y.size ≤ 9223372036854775807 := by omega
         have c10 := eq_true c1
         have c11 : decide (S.size + Y.size ≤ 9223372036854775807) = true := decide_eq_true c1
         have c12 : (9223372036854775807 < S.size + Y.size) = False := eq_false (Nat.not_lt.2 c1)
         clear c1
         have c2 : (S ++ Y).size + x2.size ≤ 9223372036854775807 := by omega
         have c20 := eq_true c2
         have c21 : decide ((S ++ Y).size + x2.size ≤ 9223372036854775807) = true := decide_eq_true c2
         have c22 : (9223372036854775807 < (S ++ Y).size + x2.size) = False := eq_false (Nat.not_lt.2 c2)
         clear c2
         have c3 : S.size + Y.size + x2.size ≤ 9223372036854775807 := by omega
         have c30 := eq_true c3
         have c31 : decide (S.size + Y.size + x2.size ≤ 9223372036854775807) = true := decide_eq_true c3
         have c32 : (9223372036854775807 < S.size + Y.size + x2.size) = False := eq_false (Nat.not_lt.2 c3)
         clear c3
         clear HT hY hYs hSs hos hSY
         go_wp2_with fail
         go_region_with (first
          | (go_at_call 48; go_must (refine (strataref01_Uvarint.calls (x2.size : Int) _ _ HU.out).mono ?_; rintro e w2 ⟨rfl, hb⟩; have h2' := pw_cell_below hb h2; have HB2 := Aside0.mk (below_step (below_drew HB.out) hb); clear hb)))
         all_goals go_wp2
         all_goals go_roundg gq
         all_goals first | exact ⟨n + 1, by omega, by rw [HT2.out], by go_num, ⟨by have := HK.out; omega⟩, HB2⟩ | omega
     · have d1 : decide ((n : Int) < (l0.length : Int)) = false := decide_eq_false (by omega)
       have d2 : decide (n < l0.length) = false := decide_eq_false hlt
       rw [List.take_of_length_le (by omega), show hdB l0 l0.length ++ l0.flatMap colV = rowB l0 from rfl, Hr.out]
       go_wp2
       go_ret2
       exact ⟨rfl, HB.out⟩
end Go.Proofs.YtggbhdcgfnjogaaDoor.PPl

