import Derived.Test.YtggbhdcgfnjogaaDoorTPPlx0
namespace Go.Proofs.YtggbhdcgfnjogaaDoor.PPl
open Go.RowKit Go.Proofs.YtggbhdcgfnjogaaDoorW.PrintWords Go.Proofs.YtggbhdcgfnjogaaDoorW.PrintLast Go.Proofs.YtggbhdcgfnjogaaDoorW.PrintMore
set_option linter.unusedVariables false
set_option linter.unusedSimpArgs false
def uv : Nat → Int → List Int
 | 0, _ => []
 | n + 1, v => if v < 128 then [v] else (v % 128 + 128) :: uv n (v / 128)
def bits_Uvarint.f (a0 : Int) : Option ByteArray := if 0 ≤ a0 ∧ a0 < 18446744073709551616 then some (strOfNums (uv 10 a0)) else none
theorem bits_or_128 (b : Int) (h0 : 0 ≤ b) (h1 : b < 256) : Go.bits .or .u8 b 128 = b % 128 + 128 := by
 have h : ∀ b : Fin 256, Go.bits .or .u8 (b.val : Int) 128 = (b.val : Int) % 128 + 128 := by decide +kernel
 obtain ⟨n, rfl⟩ := Int.eq_ofNat_of_zero_le h0
 exact h ⟨n, by omega⟩
theorem nums_set (k : IntKind) (cs : List Int) (n : Nat) (y : Int) : (nums k cs).toArray.setIfInBounds n (.int k y) = (nums k (cs.set n y)).toArray := by
 simp [nums, List.map_set]
theorem nums_at (k : IntKind) (cs : List Int) (n : Nat) (h : n < cs.length) : (nums k cs).toArray[n]? = some (.int k cs[n]) := by
 simp [nums, h]
def pow7 (n : Nat) : Int := 18446744073709551616 / 2 ^ (7 * n)
theorem pow7_step {n : Nat} {x : Int} (hn : n ≤ 9) (h0 : 128 ≤ x) (h : x < pow7 n) : n ≤ 8 ∧ x / 128 < pow7 (n + 1) := by
 have : n = 0 ∨ n = 1 ∨ n = 2 ∨ n = 3 ∨ n = 4 ∨ n = 5 ∨ n = 6 ∨ n = 7 ∨ n = 8 ∨ n = 9 := by omega
 rcases this with rfl | rfl | rfl | rfl | rfl | rfl | rfl | rfl | rfl | rfl <;> simp [pow7] at * <;> omega
set_option maxHeartbeats 4000000 in
set_option maxRecDepth 100000 in
theorem bits_Uvarint.calls (a0 : Int) (r : ByteArray) (w : World) (h : bits_Uvarint.f a0 = some r) :
 Calls Tryd.prog 45 #[.int .u64 a0] w fun e w' => e = .returned (.string r) ∧ Below w.heap.size w w' := by
 unfold bits_Uvarint.f at h
 by_cases hl : 0 ≤ a0 ∧ a0 < 18446744073709551616
 case neg => rw [if_neg hl] at h; exact absurd h (by simp)
 rw [if_pos hl] at h
 have Hr := Aside0.mk (Option.some.inj h)
 clear h
 have HP : Aside0 (a0 < pow7 0) := ⟨by unfold pow7; simpa using hl.2⟩
 have hp0 : 0 ≤ a0 := hl.1
 clear hl
 have HB := Aside0.mk (Below.refl w.heap.size w)
 go_enter Tryd.func45, Tryd.ntmps45
 go_wp2
 go_loopw [0, 4] (fun v0 v4 wr => ∃ (n : Nat) (x : Int) (cs : List Int), n ≤ 9 ∧ 0 ≤ x ∧ v0 = .int .u64 x ∧ v4 = .int .i64 (n : Int) ∧ Aside0 (x < pow7 n) ∧ Aside0 (cs.length = 10) ∧ Aside0 (wr.heap[w.heap.size]? = some (.cells (nums .u8 cs).toArray 137 (0, 0))) ∧ Aside0 (cs.take n ++ uv (10 - n) x = uv 10 a0) ∧ Aside0 (Below w.heap.size w wr)) (fun _ v4 _ => 10 - (intOf v4).toNat)
 case atStart => exact ⟨0, a0, List.replicate 10 0, by omega, hp0, rfl, rfl, HP, ⟨rfl⟩, ⟨heap_alloc_new w _⟩, ⟨by simp⟩, ⟨below_alloc HB.out _⟩⟩
 case round =>
  clear HB HP hp0
  obtain ⟨n, x, cs, hn, hx, rfl, rfl, HP, HL, HH, HU, HB⟩ := hrel
  have hc0 := blk_cell HH.out n
  rw [nums_at .u8 cs n (by rw [HL.out]; omega)] at hc0
  have hf0 := blk_frozen HH.out n
  by_cases hge : 128 ≤ x
  · have d1 : decide (128 ≤ x) = true := decide_eq_true hge
    obtain ⟨hn8, hq⟩ := pow7_step hn hge HP.out
    have HQ := Aside0.mk hq
    have HE : Aside0 ((cs.set n (x % 128 + 128)).take (n + 1) ++ uv (10 - (n + 1)) (x / 128) = uv 10 a0) := by
     constructor
     rw [← HU.out, List.take_succ_eq_append_getElem (by simp [HL.out]; omega)]
     obtain ⟨m, hm⟩ : ∃ m, 10 - n = m + 1 := ⟨9 - n, by omega⟩
     rw [hm, show 10 - (n + 1) = m by omega]
     simp only [uv, if_neg (show ¬ x < 128 by omega), List.getElem_set_self, List.take_set_of_le (Nat.le_refl n), List.append_assoc, List.singleton_append]
    have hor := bits_or_128 (x % 256) (by omega) (by omega)
    rw [show x % 256 % 128 = x % 128 by omega] at hor
    clear hq
    go_wp2
    have HH2 := Aside0.mk (blk_put HH.out n (.int .u8 (x % 128 + 128)) (nums_set .u8 cs n (x % 128 + 128)))
    go_roundw
    case rel => exact ⟨n + 1, x / 128, cs.set n (x % 128 + 128), by omega, by omega, rfl, by go_num, HQ, ⟨by simp [HL.out]⟩, HH2, HE, ⟨below_set HB.out (Nat.le_refl _)⟩⟩
    case measure => simp [intOf]; omega
  · have d1 : decide (128 ≤ x) = false := decide_eq_false hge
    have HE : Aside0 ((cs.set n x).take (n + 1) = uv 10 a0) := by
     constructor
     rw [← HU.out, List.take_succ_eq_append_getElem (by simp [HL.out]; omega)]
     obtain ⟨m, hm⟩ : ∃ m, 10 - n = m + 1 := ⟨9 - n, by omega⟩
     rw [hm]
     simp only [uv, if_pos (show x < 128 by omega), List.getElem_set_self, List.take_set_of_le (Nat.le_refl n)]
    have hxm : x % 256 = x := by omega
    have HH2 := Aside0.mk (blk_put HH.out n (.int .u8 x) (nums_set .u8 cs n x))
    have hown : (wr.setCell ⟨w.heap.size, n, none⟩ (.int .u8 x)).ownsRow w.heap.size 137 1 (.slice (some ⟨w.heap.size, 0, none⟩) (n + 1) 10) (n + 1) (nums .u8 ((cs.set n x).take (n + 1))) := by
     refine ⟨by simp [nums, HL.out]; omega, .inr ⟨w.heap.size, 10, _, rfl, Nat.le_refl _, HH2.out, by omega, by simp [maxLen], by simp [nums, HL.out], by simp [nums, List.map_take]⟩⟩
    have hcv := own_string (P := Tryd.prog) (src := 66) (dst := 9) Tryd.underlying66 Tryd.underlying5 Tryd.underlying9 hown
    rw [HE.out, Hr.out] at hcv
    have hsl : ∀ W : World, (Instr.sliceAt 137 (.pointer (some ⟨w.heap.size, 0, none⟩)) none (some (.int .i64 ((n : Int) + 1))) none).run Tryd.prog W = .ok (.slice (some ⟨w.heap.size, 0, none⟩) (n + 1) 10) W := by
     intro W
     have hal : Tryd.prog.arrayLen 137 = 10 := by kernel_rfl
     have h10 : ((n : Int) + 1).toNat = n + 1 := by omega
     rw [run_sliceAt_array_h (P := Tryd.prog) W 137 ⟨w.heap.size, 0, none⟩ (by kernel_rfl) .i64 ((n : Int) + 1) (by omega) (by rw [hal]; omega), hal, h10]
     have hsz : (sizeOf (Tryd.prog.elem 137)).run Tryd.prog W = .ok 1 W := by kernel_rfl
     rw [hsz]
     simp [slicedAt, Result.andThen, Addr.add]
    clear hown HE HH2
    go_wp2
    go_ret
    exact ⟨rfl, below_set HB.out (Nat.le_refl _)⟩
def vbelow (k : Int) : Int := if k = 0 then 1 else if k = 1 then 2 else if k = 2 then 0 else 1
def vvalid (k i : Int) (t : ByteArray) : Bool := (decide (vbelow k = 0) || decide (IntKind.u64.wrap i < vbelow k)) && (decide (k = 3) || t.toList.isEmpty)
def bits_valid.f (k i : Int) (t : ByteArray) : Option Bool := if 0 ≤ k ∧ k < 4 then some (vvalid k i t) else none
set_option maxHeartbeats 2000000 in
theorem bits_valid.calls (k i : Int) (t : ByteArray) (r : Bool) (w : World) (h : bits_valid.f k i t = some r) (hG : GL w) :
 Calls Tryd.prog 96 #[.agg #[.int .i64 k, .int .i64 i, .string t]] w fun e w' => e = .returned (.bool r) ∧ Below w.heap.size w w' := by
 unfold bits_valid.f at h
 by_cases hk : 0 ≤ k ∧ k < 4
 case neg => rw [if_neg hk] at h; exact absurd h (by simp)
 rw [if_pos hk] at h
 obtain rfl := Option.some.inj h
 clear h
 have HB := Aside0.mk (Below.refl w.heap.size w)
 have hlt : 1 < w.heap.size := World.block_lt_of_cell? w ⟨1, 0, none⟩ (hG.shape 0 _ rfl)
 have hk4 : k = 0 ∨ k = 1 ∨ k = 2 ∨ k = 3 := by omega
 rcases hk4 with rfl | rfl | rfl | rfl
 · have s0 := hG.shape 0 _ rfl
   have s1 := hG.shape 1 _ rfl
   clear hG hk
   go_enter Tryd.func96, Tryd.ntmps96
   go_wp2
   all_goals go_ret
   all_goals exact ⟨by first | (simp_all [vvalid, vbelow]; done) | (simp_all [vvalid, vbelow]; omega), below_alloc (below_alloc HB.out _) _⟩
 · have s0 := hG.shape 2 _ rfl
   have s1 := hG.shape 3 _ rfl
   clear hG hk
   go_enter Tryd.func96, Tryd.ntmps96
   go_wp2
   all_goals go_ret
   all_goals exact ⟨by first | (simp_all [vvalid, vbelow]; done) | (simp_all [vvalid, vbelow]; omega), below_alloc (below_alloc HB.out _) _⟩
 · have s0 := hG.shape 4 _ rfl
   have s1 := hG.shape 5 _ rfl
   clear hG hk
   go_enter Tryd.func96, Tryd.ntmps96
   go_wp2
   all_goals go_ret
   all_goals exact ⟨by first | (simp_all [vvalid, vbelow]; done) | (simp_all [vvalid, vbelow]; omega), below_alloc (below_alloc HB.out _) _⟩
 · have s0 := hG.shape 6 _ rfl
   have s1 := hG.shape 7 _ rfl
   clear hG hk
   go_enter Tryd.func96, Tryd.ntmps96
   go_wp2
   all_goals go_ret
   all_goals exact ⟨by first | (simp_all [vvalid, vbelow]; done) | (simp_all [vvalid, vbelow]; omega), below_alloc (below_alloc HB.out _) _⟩
mutual
def bits_check.l0 : Nat → List (S84) → Int → Int → Option (Int)
 | 0, _, _, _ => none
 | k + 1, x8, x9, x10 => if x10 < x9 then (if 0 ≤ x10 then (if x10 < (x8.length : Int) then (if ((rd_T84 x8 x10).f0) < 0 then (bits_check.j1 k x8 x9 x10 true ((rd_T84 x8 x10).f0) ((rd_T84 x8 x10).f1) ((rd_T84 x8 x10).f2)) else (if ((rd_T84 x8 x10).f0) ≥ 4 then (bits_check.j1 k x8 x9 x10 true ((rd_T84 x8 x10).f0) ((rd_T84 x8 x10).f1) ((rd_T84 x8 x10).f2)) else ((bits_valid.f ((rd_T84 x8 x10).f0) ((rd_T84 x8 x10).f1) ((rd_T84 x8 x10).f2)).bind fun t116 => (bits_check.j1 k x8 x9 x10 (!t116) ((rd_T84 x8 x10).f0) ((rd_T84 x8 x10).f1) ((rd_T84 x8 x10).f2))))) else (none)) else (none)) else (some 0)
def bits_check.j1 : Nat → List (S84) → Int → Int → Bool → Int → Int → ByteArray → Option (Int)
 | 0, _, _, _, _, _, _, _ => none
 | k + 1, x8, x9, x10, x26, x116000, x116001, x116002 => if x26 = true then (some 19) else (if (x116002.size : Int) > 4096 then (some 4) else (bits_check.l0 k x8 x9 (wrap64 (x10 + 1))))
end
def bits_check.f (k : Nat) (l0 : List (S84)) : Option (Int) := if (l0.length : Int) > 16 then (some 18) else (bits_check.l0 k l0 (l0.length : Int) 0)
set_option maxHeartbeats 8000000 in
set_option maxRecDepth 100000 in
theorem bits_check.calls (k : Nat) (A0 : Option Addr) (c0 : Nat) (l0 : List (S84)) (r : Int) (w : World) (hr0 : Kd.C k84 w A0 l0.length l0) (hc0 : l0.length ≤ c0) (h : bits_check.f k l0 = some r) (hG : GL w) :
 Calls Tryd.prog 72 #[.slice A0 l0.length c0] w fun e w' => e = .returned (.int .i64 r) ∧ Below w.heap.size w w' := by
 have hu84 := Tryd.underlying84
 have HR0 := Aside0.mk hr0
 have HC0 := Aside0.mk hc0
 clear hr0 hc0
 have HB := Aside0.mk (Below.refl w.heap.size w)
 have H : (if (l0.length : Int) > 16 then (some 18) else (bits_check.l0 k l0 (l0.length : Int) 0)) = some r := h
 clear h
 by_cases c2 : (l0.length : Int) > 16
 · rw [if_pos c2] at H
   have c2b0 : decide (16 < (l0.length : Int)) = true := decide_eq_true c2
   have c2b1 : decide (16 < l0.length) = true := decide_eq_true (by omega)
   clear c2
   obtain rfl := Option.some.inj H
   go_enter Tryd.func72, Tryd.ntmps72
   go_wp2
   go_ret
   exact ⟨by first | rfl | (simp [errW_none, errW_some] <;> rfl) | (simp [*, errW_none, errW_some] <;> rfl), by repeat (first | (with_reducible first | exact HB.out | apply below_alloc | apply pw_below_drewN | apply below_drew1) | exact HB.out)⟩
 · rw [if_neg c2] at H
   have c2b0 : decide (16 < (l0.length : Int)) = false := decide_eq_false c2
   have c2b1 : decide (16 < l0.length) = false := decide_eq_false (by omega)
   clear c2
   have H' := Aside0.mk H
   clear H
   go_enter Tryd.func72, Tryd.ntmps72
   go_wp2
   go_loopg [10] k (fun kq v10 w' => ∃ (x10_1 : Int), v10 = .int .i64 x10_1 ∧ Aside0 (bits_check.l0 kq l0 (l0.length : Int) x10_1 = some r) ∧ Aside0 (kq ≤ k) ∧ Aside0 (Below w.heap.size w w'))
   case atStart => exact ⟨(0), (by first | rfl | (simp; done) | (simp [*]; done)), H', ⟨Nat.le_refl _⟩, ⟨by repeat (first | (with_reducible first | exact HB.out | apply below_alloc | apply pw_below_drewN | apply below_drew1) | exact HB.out)⟩⟩
   case round =>
    clear H'
    (try clear c2); (try clear c2b0); (try clear c2b1); (try clear p2)
    obtain ⟨x10_1, rfl, HA, HK1, HB⟩ := hrel
    cases gk with
    | zero => exact absurd HA.out (by simp [bits_check.l0])
    | succ k1 =>
     have H := HA.out
     clear HA
     simp only [bits_check.l0] at H
     by_cases c3 : x10_1 < (l0.length : Int)
     · rw [if_pos c3] at H
       have c3b0 : decide (x10_1 < (l0.length : Int)) = true := decide_eq_true c3
       clear c3
       by_cases c4 : 0 ≤ x10_1
       · rw [if_pos c4] at H
         have c4b0 : decide (0 ≤ x10_1) = true := decide_eq_true c4
         clear c4
         by_cases c5 : x10_1 < (l0.length : Int)
         · rw [if_pos c5] at H
           have c5b0 : decide (x10_1 < (l0.length : Int)) = true := decide_eq_true c5
           clear c5
           have HC6 := Aside0.mk H
           clear H
           have p114 : 0 ≤ (x10_1 : Int) := of_decide_eq_true (by first | (with_reducible assumption) | assumption)
           have q114 : x10_1 < (l0.length : Int) := of_decide_eq_true (by first | (with_reducible assumption) | assumption)
           obtain ⟨ad114, e114, hx114_0, hx114_1, hx114_2⟩ := at_T84 HR0.out x10_1 p114 q114
           cases e114
           replace hx114_0 := (HB.out.cell (World.block_lt_of_cell? w _ hx114_0)).trans hx114_0
           replace hx114_1 := (HB.out.cell (World.block_lt_of_cell? w _ hx114_1)).trans hx114_1
           replace hx114_2 := (HB.out.cell (World.block_lt_of_cell? w _ hx114_2)).trans hx114_2
           replace p114 := eq_true p114
           replace q114 := eq_true q114
           go_upto_region 6 with (first | ((with_reducible refine gate_dst (N := 4) rfl ?_); refine box_event ?hg (N := 4) ?hd (cs := #[.int .i64 0, .int .i64 0, .string (⟨#[]⟩ : ByteArray)]) (t := 84) ?hr ?_; (case hd => rfl); (case hg => rfl); (case hr => first | (go_simp; done) | (go_simp; rfl)); intro gb115 hg w7 hbox hb; have n0_ := Aside0.mk (below_step (by repeat (first | (with_reducible first | exact HB.out | apply below_alloc | apply pw_below_drewN | apply below_drew1) | exact HB.out)) hb); have n1_ := Aside0.mk (hbox); have n2_ := Aside0.mk ((by rw [hg]; exact (below_size (by repeat (first | (with_reducible first | exact HB.out | apply below_alloc | apply pw_below_drewN | apply below_drew1) | exact HB.out))) : w.heap.size ≤ gb115)); have n3_ := Aside0.mk ((by rw [hg]; exact (below_size (by repeat (first | (with_reducible first | exact HB.out | apply below_alloc | apply pw_below_drewN | apply below_drew1) | exact HB.out))) : w.heap.size ≤ gb115)); clear HB; have HB := n0_; have BK115 := n1_; have GW115 := n2_; have GE115 := n3_; clear n0_ n1_ n2_ n3_; clear hb hbox hg; have hcz8_0 : w7.cell? ⟨gb115, 0, none⟩ = some (.int .i64 0) := (blk_cell BK115.out 0).trans rfl; have hcz8_1 : w7.cell? ⟨gb115, 1, none⟩ = some (.int .i64 0) := (blk_cell BK115.out 1).trans rfl; have hcz8_2 : w7.cell? ⟨gb115, 2, none⟩ = some (.string (⟨#[]⟩ : ByteArray)) := (blk_cell BK115.out 2).trans rfl; have hfz8_0 := blk_frozen BK115.out 0; have hfz8_1 := blk_frozen BK115.out 1; have hfz8_2 := blk_frozen BK115.out 2))
           (try simp only [Act.put, List.setIfInBounds_toArray, List.set_cons_zero, List.set_cons_succ])
           go_cut [26] (fun v26 wc => ∃ (kq : Nat) (x26_5 : Bool), v26 = .bool x26_5 ∧ Aside0 (bits_check.j1 kq l0 (l0.length : Int) x10_1 x26_5 ((rd_T84 l0 x10_1).f0) ((rd_T84 l0 x10_1).f1) ((rd_T84 l0 x10_1).f2) = some r) ∧ Aside0 (kq ≤ k1) ∧ Aside0 (wc.heap[gb115]? = some (.cells #[.int .i64 ((rd_T84 l0 x10_1).f0), .int .i64 ((rd_T84 l0 x10_1).f1), .string ((rd_T84 l0 x10_1).f2)] 84 (0, 0))) ∧ Aside0 (Below w.heap.size w wc))
           case first =>
            have H := HC6.out
            clear HC6
            by_cases c9 : ((rd_T84 l0 x10_1).f0) < 0
            · rw [if_pos c9] at H
              have c9b0 : decide (((rd_T84 l0 x10_1).f0) < 0) = true := decide_eq_true c9
              clear c9
              (first | rw [c9b0] | (simp only [i64_w, i32_w]; rw [c9b0]) | skip)
              have H' := Aside0.mk H
              clear H
              have hcz10_0 : w7.cell? ⟨gb115, 0, none⟩ = some (.int .i64 0) := (blk_cell BK115.out 0).trans rfl
              have hcz10_1 : w7.cell? ⟨gb115, 1, none⟩ = some (.int .i64 0) := (blk_cell BK115.out 1).trans rfl
              have hcz10_2 : w7.cell? ⟨gb115, 2, none⟩ = some (.string (⟨#[]⟩ : ByteArray)) := (blk_cell BK115.out 2).trans rfl
              have hfz10_0 := blk_frozen BK115.out 0
              have hfz10_1 := blk_frozen BK115.out 1
              have hfz10_2 := blk_frozen BK115.out 2
              go_wp2
              go_meet
              case rel => exact ⟨_, (true), (by first | rfl | (simp; done) | (simp [*]; done)), H', ⟨by have := HK1.out; first | omega | exact Nat.le_refl _⟩, ⟨by (with_reducible repeat (first | refine blk_drewN ?_ _ | refine blk_drew ?_ | refine blk_alloc ?_ _)); refine blk_put (cs := #[.int .i64 ((rd_T84 l0 x10_1).f0), .int .i64 ((rd_T84 l0 x10_1).f1), .string (⟨#[]⟩ : ByteArray)]) ?_ 2 _ rfl; (with_reducible repeat (first | refine blk_drewN ?_ _ | refine blk_drew ?_ | refine blk_alloc ?_ _)); refine blk_put (cs := #[.int .i64 ((rd_T84 l0 x10_1).f0), .int .i64 0, .string (⟨#[]⟩ : ByteArray)]) ?_ 1 _ rfl; (with_reducible repeat (first | refine blk_drewN ?_ _ | refine blk_drew ?_ | refine blk_alloc ?_ _)); refine blk_put (cs := #[.int .i64 0, .int .i64 0, .string (⟨#[]⟩ : ByteArray)]) ?_ 0 _ rfl; (with_reducible repeat (first | refine blk_drewN ?_ _ | refine blk_drew ?_ | refine blk_alloc ?_ _)); exact BK115.out⟩, ⟨by repeat (first | (with_reducible first | exact HB.out | apply below_alloc | apply pw_below_drewN | apply below_drew1 | refine below_set ?_ GE115.out) | exact HB.out)⟩⟩
            · rw [if_neg c9] at H
              have c9b0 : decide (((rd_T84 l0 x10_1).f0) < 0) = false := decide_eq_false c9
              clear c9
              (first | rw [c9b0] | (simp only [i64_w, i32_w]; rw [c9b0]) | skip)
              by_cases c11 : ((rd_T84 l0 x10_1).f0) ≥ 4
              · rw [if_pos c11] at H
                have c11b0 : decide (4 ≤ ((rd_T84 l0 x10_1).f0)) = true := decide_eq_true c11
                clear c11
                have H' := Aside0.mk H
                clear H
                have hcz12_0 : w7.cell? ⟨gb115, 0, none⟩ = some (.int .i64 0) := (blk_cell BK115.out 0).trans rfl
                have hcz12_1 : w7.cell? ⟨gb115, 1, none⟩ = some (.int .i64 0) := (blk_cell BK115.out 1).trans rfl
                have hcz12_2 : w7.cell? ⟨gb115, 2, none⟩ = some (.string (⟨#[]⟩ : ByteArray)) := (blk_cell BK115.out 2).trans rfl
                have hfz12_0 := blk_frozen BK115.out 0
                have hfz12_1 := blk_frozen BK115.out 1
                have hfz12_2 := blk_frozen BK115.out 2
                go_wp2
                go_meet
                case rel => exact ⟨_, (true), (by first | rfl | (simp; done) | (simp [*]; done)), H', ⟨by have := HK1.out; first | omega | exact Nat.le_refl _⟩, ⟨by (with_reducible repeat (first | refine blk_drewN ?_ _ | refine blk_drew ?_ | refine blk_alloc ?_ _)); refine blk_put (cs := #[.int .i64 ((rd_T84 l0 x10_1).f0), .int .i64 ((rd_T84 l0 x10_1).f1), .string (⟨#[]⟩ : ByteArray)]) ?_ 2 _ rfl; (with_reducible repeat (first | refine blk_drewN ?_ _ | refine blk_drew ?_ | refine blk_alloc ?_ _)); refine blk_put (cs := #[.int .i64 ((rd_T84 l0 x10_1).f0), .int .i64 0, .string (⟨#[]⟩ : ByteArray)]) ?_ 1 _ rfl; (with_reducible repeat (first | refine blk_drewN ?_ _ | refine blk_drew ?_ | refine blk_alloc ?_ _)); refine blk_put (cs := #[.int .i64 0, .int .i64 0, .string (⟨#[]⟩ : ByteArray)]) ?_ 0 _ rfl; (with_reducible repeat (first | refine blk_drewN ?_ _ | refine blk_drew ?_ | refine blk_alloc ?_ _)); exact BK115.out⟩, ⟨by repeat (first | (with_reducible first | exact HB.out | apply below_alloc | apply pw_below_drewN | apply below_drew1 | refine below_set ?_ GE115.out) | exact HB.out)⟩⟩
              · rw [if_neg c11] at H
                have c11b0 : decide (4 ≤ ((rd_T84 l0 x10_1).f0)) = false := decide_eq_false c11
                clear c11
                replace H := Option.bind_eq_some_iff.mp H
                obtain ⟨t116, A130, H⟩ := H
                replace H : (bits_check.j1 k1 l0 (l0.length : Int) x10_1 (!t116) ((rd_T84 l0 x10_1).f0) ((rd_T84 l0 x10_1).f1) ((rd_T84 l0 x10_1).f2)) = some r := H
                have A13 := Aside0.mk A130
                clear A130
                have H' := Aside0.mk H
                clear H
                have hcz14_0 : w7.cell? ⟨gb115, 0, none⟩ = some (.int .i64 0) := (blk_cell BK115.out 0).trans rfl
                have hcz14_1 : w7.cell? ⟨gb115, 1, none⟩ = some (.int .i64 0) := (blk_cell BK115.out 1).trans rfl
                have hcz14_2 : w7.cell? ⟨gb115, 2, none⟩ = some (.string (⟨#[]⟩ : ByteArray)) := (blk_cell BK115.out 2).trans rfl
                have hfz14_0 := blk_frozen BK115.out 0
                have hfz14_1 := blk_frozen BK115.out 1
                have hfz14_2 := blk_frozen BK115.out 2
                go_wp2_with (first | (go_at_call 96; (with_reducible refine (bits_valid.calls ((rd_T84 l0 x10_1).f0) ((rd_T84 l0 x10_1).f1) ((rd_T84 l0 x10_1).f2) t116 _ A13.out (hG.below (by repeat (first | (with_reducible first | exact HB.out | apply below_alloc | apply pw_below_drewN | apply below_drew1 | refine below_set ?_ (Aside0.out (by assumption))) | exact HB.out)))).mono ?_); rintro e w15 ⟨rfl, hb⟩; have n0_ := Aside0.mk (blk_below (g := gb115) (o := .cells #[.int .i64 ((rd_T84 l0 x10_1).f0), .int .i64 ((rd_T84 l0 x10_1).f1), .string ((rd_T84 l0 x10_1).f2)] 84 (0, 0)) (by (with_reducible repeat (first | refine blk_drewN ?_ _ | refine blk_drew ?_ | refine blk_alloc ?_ _)); refine blk_put (cs := #[.int .i64 ((rd_T84 l0 x10_1).f0), .int .i64 ((rd_T84 l0 x10_1).f1), .string (⟨#[]⟩ : ByteArray)]) ?_ 2 _ rfl; (with_reducible repeat (first | refine blk_drewN ?_ _ | refine blk_drew ?_ | refine blk_alloc ?_ _)); refine blk_put (cs := #[.int .i64 ((rd_T84 l0 x10_1).f0), .int .i64 0, .string (⟨#[]⟩ : ByteArray)]) ?_ 1 _ rfl; (with_reducible repeat (first | refine blk_drewN ?_ _ | refine blk_drew ?_ | refine blk_alloc ?_ _)); refine blk_put (cs := #[.int .i64 0, .int .i64 0, .string (⟨#[]⟩ : ByteArray)]) ?_ 0 _ rfl; (with_reducible repeat (first | refine blk_drewN ?_ _ | refine blk_drew ?_ | refine blk_alloc ?_ _)); exact BK115.out) hb); have n1_ := Aside0.mk (below_step (by repeat (first | (with_reducible first | exact HB.out | apply below_alloc | apply pw_below_drewN | apply below_drew1 | refine below_set ?_ GE115.out) | exact HB.out)) hb); clear BK115; clear HB; have BK115 := n0_; have HB := n1_; clear n0_ n1_; (try clear hb); (try clear hb2); (try clear hk); (try clear hi)))
                go_meet
                case rel => exact ⟨_, (!t116), (by first | rfl | (simp; done) | (simp [*]; done)), H', ⟨by have := HK1.out; first | omega | exact Nat.le_refl _⟩, ⟨by (with_reducible repeat (first | refine blk_drewN ?_ _ | refine blk_drew ?_ | refine blk_alloc ?_ _)); exact BK115.out⟩, ⟨by repeat (first | (with_reducible first | exact HB.out | apply below_alloc | apply pw_below_drewN | apply below_drew1 | refine below_set ?_ GE115.out) | exact HB.out)⟩⟩
           case rest =>
            clear HC6
            (try clear c1); (try clear p1); (try clear q1); (try clear hx1); (try clear c2); (try clear c2b0); (try clear c2b1); (try clear p2); (try clear c3); (try clear c3b0); (try clear c4); (try clear c4b0); (try clear c5); (try clear c5b0); (try clear c7); (try clear c9); (try clear c9b0); (try clear c11); (try clear c11b0); (try clear p11); (try clear q11); (try clear hx11); (try clear hcz10_0); (try clear hcz10_1); (try clear hcz10_2); (try clear hcz12_0); (try clear hcz12_1); (try clear hcz12_2); (try clear hcz14_0); (try clear hcz14_1); (try clear hcz14_2); (try clear hcz8_0); (try clear hcz8_1); (try clear hcz8_2); (try clear hfz10_0); (try clear hfz10_1); (try clear hfz10_2); (try clear hfz12_0); (try clear hfz12_1); (try clear hfz12_2); (try clear hfz14_0); (try clear hfz14_1); (try clear hfz14_2); (try clear hfz8_0); (try clear hfz8_1); (try clear hfz8_2); (try clear hx114_0); (try clear hx114_1); (try clear hx114_2); (try clear p114); (try clear p2); (try clear q114)
            obtain ⟨kq, x26_5, rfl, HA, HJ5, BK115, HB⟩ := hcut
            cases kq with
            | zero => exact absurd HA.out (by simp [bits_check.j1])
            | succ kj5 =>
             have H := HA.out
             clear HA
             simp only [bits_check.j1] at H
             by_cases c16 : x26_5 = true
             · subst c16
               have H1 : (some 19) = some r := by rw [if_pos rfl] at H; exact H
               clear H
               have H := H1
               clear H1
               obtain rfl := Option.some.inj H
               go_wp2
               go_ret
               exact ⟨by first | rfl | (simp [errW_none, errW_some] <;> rfl) | (simp [*, errW_none, errW_some] <;> rfl), by repeat (first | (with_reducible first | exact HB.out | apply below_alloc | apply pw_below_drewN | apply below_drew1 | refine below_set ?_ GE115.out) | exact HB.out)⟩
             · replace c16 := Bool.eq_false_iff.mpr c16
               subst c16
               have H1 : (if (((rd_T84 l0 x10_1).f2).size : Int) > 4096 then (some 4) else (bits_check.l0 kj5 l0 (l0.length : Int) (wrap64 (x10_1 + 1)))) = some r := by rw [if_neg (show ¬ (false = true) by decide)] at H; exact H
               clear H
               have H := H1
               clear H1
               by_cases c17 : (((rd_T84 l0 x10_1).f2).size : Int) > 4096
               · rw [if_pos c17] at H
                 have c17b0 : decide (4096 < (((rd_T84 l0 x10_1).f2).size : Int)) = true := decide_eq_true c17
                 have c17b1 : decide (4096 < ((rd_T84 l0 x10_1).f2).size) = true := decide_eq_true (by omega)
                 clear c17
                 obtain rfl := Option.some.inj H
                 have hcz18_0 : wc.cell? ⟨gb115, 0, none⟩ = some (.int .i64 ((rd_T84 l0 x10_1).f0)) := (blk_cell BK115.out 0).trans rfl
                 have hcz18_1 : wc.cell? ⟨gb115, 1, none⟩ = some (.int .i64 ((rd_T84 l0 x10_1).f1)) := (blk_cell BK115.out 1).trans rfl
                 have hcz18_2 : wc.cell? ⟨gb115, 2, none⟩ = some (.string ((rd_T84 l0 x10_1).f2)) := (blk_cell BK115.out 2).trans rfl
                 have hfz18_0 := blk_frozen BK115.out 0
                 have hfz18_1 := blk_frozen BK115.out 1
                 have hfz18_2 := blk_frozen BK115.out 2
                 go_wp2
                 go_ret
                 exact ⟨by first | rfl | (simp [errW_none, errW_some] <;> rfl) | (simp [*, errW_none, errW_some] <;> rfl), by repeat (first | (with_reducible first | exact HB.out | apply below_alloc | apply pw_below_drewN | apply below_drew1 | refine below_set ?_ GE115.out) | exact HB.out)⟩
               · rw [if_neg c17] at H
                 have c17b0 : decide (4096 < (((rd_T84 l0 x10_1).f2).size : Int)) = false := decide_eq_false c17
                 have c17b1 : decide (4096 < ((rd_T84 l0 x10_1).f2).size) = false := decide_eq_false (by omega)
                 clear c17
                 have H' := Aside0.mk H
                 clear H
                 have hcz19_0 : wc.cell? ⟨gb115, 0, none⟩ = some (.int .i64 ((rd_T84 l0 x10_1).f0)) := (blk_cell BK115.out 0).trans rfl
                 have hcz19_1 : wc.cell? ⟨gb115, 1, none⟩ = some (.int .i64 ((rd_T84 l0 x10_1).f1)) := (blk_cell BK115.out 1).trans rfl
                 have hcz19_2 : wc.cell? ⟨gb115, 2, none⟩ = some (.string ((rd_T84 l0 x10_1).f2)) := (blk_cell BK115.out 2).trans rfl
                 have hfz19_0 := blk_frozen BK115.out 0
                 have hfz19_1 := blk_frozen BK115.out 1
                 have hfz19_2 := blk_frozen BK115.out 2
                 go_wp2
                 go_roundg kj5
                 case measure => have := HK1.out; have := HJ5.out; omega
                 case rel => exact ⟨(wrap64 (x10_1 + 1)), (by first | rfl | (simp; done) | (simp [*]; done)), H', ⟨by have := HK1.out; have := HJ5.out; omega⟩, ⟨by repeat (first | (with_reducible first | exact HB.out | apply below_alloc | apply pw_below_drewN | apply below_drew1 | refine below_set ?_ GE115.out) | exact HB.out)⟩⟩
         · rw [if_neg c5] at H
           exact absurd H (by simp)
       · rw [if_neg c4] at H
         exact absurd H (by simp)
     · rw [if_neg c3] at H
       have c3b0 : decide (x10_1 < (l0.length : Int)) = false := decide_eq_false c3
       clear c3
       obtain rfl := Option.some.inj H
       go_wp2
       go_ret
       exact ⟨by first | rfl | (simp [errW_none, errW_some] <;> rfl) | (simp [*, errW_none, errW_some] <;> rfl), by repeat (first | (with_reducible first | exact HB.out | apply below_alloc | apply pw_below_drewN | apply below_drew1) | exact HB.out)⟩
theorem uv_length : ∀ n x, (uv n x).length ≤ n := by
 intro n
 induction n with
 | zero => intro x; simp [uv]
 | succ n ih =>
  intro x
  unfold uv
  split
  · simp
  · have := ih (x / 128); simp; omega
theorem uv_byte : ∀ n x, 0 ≤ x → ∀ y ∈ uv n x, 0 ≤ y ∧ y < 256 := by
 intro n
 induction n with
 | zero => intro x _ y hy; simp [uv] at hy
 | succ n ih =>
  intro x hx y hy
  unfold uv at hy
  split at hy
  · simp only [List.mem_singleton] at hy; omega
  · simp only [List.mem_cons] at hy
    rcases hy with rfl | hy
    · omega
    · exact ih _ (by omega) y hy
end Go.Proofs.YtggbhdcgfnjogaaDoor.PPl

