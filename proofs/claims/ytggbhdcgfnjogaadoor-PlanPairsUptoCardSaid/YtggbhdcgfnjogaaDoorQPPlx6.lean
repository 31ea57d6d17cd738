import Derived.Test.YtggbhdcgfnjogaaDoorQPPlx0
namespace Go.Proofs.YtggbhdcgfnjogaaDoor.PPl
open Go.RowKit Go.Proofs.YtggbhdcgfnjogaaDoorW.PrintWords Go.Proofs.YtggbhdcgfnjogaaDoorW.PrintLast Go.Proofs.YtggbhdcgfnjogaaDoorW.PrintMore
set_option linter.unusedVariables false
set_option linter.unusedSimpArgs false
def uv : Nat → Int → List Int
 | 0, _ => []
 | n + 1, v => if v < 128 then [v] else (v % 128 + 128) :: uv n (v / 128)
def bits_Uvarint.f (a0 : Int) : Option ByteArray := if 0 ≤ a0 ∧ a0 < 18446744073709551616 then some (strOfNums (uv 10 a0)) else none
theorem bits_or_128 (b : Int) (h0 : 0 ≤ b) (h1 : b < 256) : Go.bits .or .u8 b 128 = b % 128 + 128 := by
 have h : ∀ b : Fin 256, Go.bits .or .u8 (b.val : Int) 128 = (b.val : Int) % 128 + 128 := by decide +kernel
 obtain ⟨n, rfl⟩ := Int.eq_ofNat_of_zero_le h0
 exact h ⟨n, by omega⟩
theorem nums_set (k : IntKind) (cs : List Int) (n : Nat) (y : Int) : (nums k cs).toArray.setIfInBounds n (.int k y) = (nums k (cs.set n y)).toArray := by
 simp [nums, List.map_set]
theorem nums_at (k : IntKind) (cs : List Int) (n : Nat) (h : n < cs.length) : (nums k cs).toArray[n]? = some (.int k cs[n]) := by
 simp [nums, h]
def pow7 (n : Nat) : Int := 18446744073709551616 / 2 ^ (7 * n)
theorem pow7_step {n : Nat} {x : Int} (hn : n ≤ 9) (h0 : 128 ≤ x) (h : x < pow7 n) : n ≤ 8 ∧ x / 128 < pow7 (n + 1) := by
 have : n = 0 ∨ n = 1 ∨ n = 2 ∨ n = 3 ∨ n = 4 ∨ n = 5 ∨ n = 6 ∨ n = 7 ∨ n = 8 ∨ n = 9 := by omega
 rcases this with rfl | rfl | rfl | rfl | rfl | rfl | rfl | rfl | rfl | rfl <;> simp [pow7] at * <;> omega
set_option maxHeartbeats 4000000 in
set_option maxRecDepth 100000 in
theorem bits_Uvarint.calls (a0 : Int) (r : ByteArray) (w : World) (h : bits_Uvarint.f a0 = some r) :
 Calls Tryd.prog 45 #[.int .u64 a0] w fun e w' => e = .returned (.string r) ∧ Below w.heap.size w w' := by
 unfold bits_Uvarint.f at h
 by_cases hl : 0 ≤ a0 ∧ a0 < 18446744073709551616
 case neg => rw [if_neg hl] at h; exact absurd h (by simp)
 rw [if_pos hl] at h
 have Hr := Aside0.mk (Option.some.inj h)
 clear h
 have HP : Aside0 (a0 < pow7 0) := ⟨by unfold pow7; simpa using hl.2⟩
 have hp0 : 0 ≤ a0 := hl.1
 clear hl
 have HB := Aside0.mk (Below.refl w.heap.size w)
 go_enter Tryd.func45, Tryd.ntmps45
 go_wp2
 go_loopw [0, 4] (fun v0 v4 wr => ∃ (n : Nat) (x : Int) (cs : List Int), n ≤ 9 ∧ 0 ≤ x ∧ v0 = .int .u64 x ∧ v4 = .int .i64 (n : Int) ∧ Aside0 (x < pow7 n) ∧ Aside0 (cs.length = 10) ∧ Aside0 (wr.heap[w.heap.size]? = some (.cells (nums .u8 cs).toArray 137 (0, 0))) ∧ Aside0 (cs.take n ++ uv (10 - n) x = uv 10 a0) ∧ Aside0 (Below w.heap.size w wr)) (fun _ v4 _ => 10 - (intOf v4).toNat)
 case atStart => exact ⟨0, a0, List.replicate 10 0, by omega, hp0, rfl, rfl, HP, ⟨rfl⟩, ⟨heap_alloc_new w _⟩, ⟨by simp⟩, ⟨below_alloc HB.out _⟩⟩
 case round =>
  clear HB HP hp0
  obtain ⟨n, x, cs, hn, hx, rfl, rfl, HP, HL, HH, HU, HB⟩ := hrel
  have hc0 := blk_cell HH.out n
  rw [nums_at .u8 cs n (by rw [HL.out]; omega)] at hc0
  have hf0 := blk_frozen HH.out n
  by_cases hge : 128 ≤ x
  · have d1 : decide (128 ≤ x) = true := decide_eq_true hge
    obtain ⟨hn8, hq⟩ := pow7_step hn hge HP.out
    have HQ := Aside0.mk hq
    have HE : Aside0 ((cs.set n (x % 128 + 128)).take (n + 1) ++ uv (10 - (n + 1)) (x / 128) = uv 10 a0) := by
     constructor
     rw [← HU.out, List.take_succ_eq_append_getElem (by simp [HL.out]; omega)]
     obtain ⟨m, hm⟩ : ∃ m, 10 - n = m + 1 := ⟨9 - n, by omega⟩
     rw [hm, show 10 - (n + 1) = m by omega]
     simp only [uv, if_neg (show ¬ x < 128 by omega), List.getElem_set_self, List.take_set_of_le (Nat.le_refl n), List.append_assoc, List.singleton_append]
    have hor := bits_or_128 (x % 256) (by omega) (by omega)
    rw [show x % 256 % 128 = x % 128 by omega] at hor
    clear hq
    go_wp2
    have HH2 := Aside0.mk (blk_put HH.out n (.int .u8 (x % 128 + 128)) (nums_set .u8 cs n (x % 128 + 128)))
    go_roundw
    case rel => exact ⟨n + 1, x / 128, cs.set n (x % 128 + 128), by omega, by omega, rfl, by go_num, HQ, ⟨by simp [HL.out]⟩, HH2, HE, ⟨below_set HB.out (Nat.le_refl _)⟩⟩
    case measure => simp [intOf]; omega
  · have d1 : decide (128 ≤ x) = false := decide_eq_false hge
    have HE : Aside0 ((cs.set n x).take (n + 1) = uv 10 a0) := by
     constructor
     rw [← HU.out, List.take_succ_eq_append_getElem (by simp [HL.out]; omega)]
     obtain ⟨m, hm⟩ : ∃ m, 10 - n = m + 1 := ⟨9 - n, by omega⟩
     rw [hm]
     simp only [uv, if_pos (show x < 128 by omega), List.getElem_set_self, List.take_set_of_le (Nat.le_refl n)]
    have hxm : x % 256 = x := by omega
    have HH2 := Aside0.mk (blk_put HH.out n (.int .u8 x) (nums_set .u8 cs n x))
    have hown : (wr.setCell ⟨w.heap.size, n, none⟩ (.int .u8 x)).ownsRow w.heap.size 137 1 (.slice (some ⟨w.heap.size, 0, none⟩) (n + 1) 10) (n + 1) (nums .u8 ((cs.set n x).take (n + 1))) := by
     refine ⟨by simp [nums, HL.out]; omega, .inr ⟨w.heap.size, 10, _, rfl, Nat.le_refl _, HH2.out, by omega, by simp [maxLen], by simp [nums, HL.out], by simp [nums, List.map_take]⟩⟩
    have hcv := own_string (P := Tryd.prog) (src := 66) (dst := 9) Tryd.underlying66 Tryd.underlying5 Tryd.underlying9 hown
    rw [HE.out, Hr.out] at hcv
    have hsl : ∀ W : World, (Instr.sliceAt 137 (.pointer (some ⟨w.heap.size, 0, none⟩)) none (some (.int .i64 ((n : Int) + 1))) none).run Tryd.prog W = .ok (.slice (some ⟨w.heap.size, 0, none⟩) (n + 1) 10) W := by
     intro W
     have hal : Tryd.prog.arrayLen 137 = 10 := by kernel_rfl
     have h10 : ((n : Int) + 1).toNat = n + 1 := by omega
     rw [run_sliceAt_array_h (P := Tryd.prog) W 137 ⟨w.heap.size, 0, none⟩ (by kernel_rfl) .i64 ((n : Int) + 1) (by omega) (by rw [hal]; omega), hal, h10]
     have hsz : (sizeOf (Tryd.prog.elem 137)).run Tryd.prog W = .ok 1 W := by kernel_rfl
     rw [hsz]
     simp [slicedAt, Result.andThen, Addr.add]
    clear hown HE HH2
    go_wp2
    go_ret
    exact ⟨rfl, below_set HB.out (Nat.le_refl _)⟩
def vbelow (k : Int) : Int := if k = 0 then 1 else if k = 1 then 2 else if k = 2 then 0 else 1
def vvalid (k i : Int) (t : ByteArray) : Bool := (decide (vbelow k = 0) || decide (IntKind.u64.wrap i < vbelow k)) && (decide (k = 3) || t.toList.isEmpty)
def bits_valid.f (k i : Int) (t : ByteArray) : Option Bool := if 0 ≤ k ∧ k < 4 then some (vvalid k i t) else none
set_option maxHeartbeats 2000000 in
theorem bits_valid.calls (k i : Int) (t : ByteArray) (r : Bool) (w : World) (h : bits_valid.f k i t = some r) (hG : GL w) :
 Calls Tryd.prog 96 #[.agg #[.int .i64 k, .int .i64 i, .string t]] w fun e w' => e = .returned (.bool r) ∧ Below w.heap.size w w' := by
 unfold bits_valid.f at h
 by_cases hk : 0 ≤ k ∧ k < 4
 case neg => rw [if_neg hk] at h; exact absurd h (by simp)
 rw [if_pos hk] at h
 obtain rfl := Option.some.inj h
 clear h
 have HB := Aside0.mk (Below.refl w.heap.size w)
 have hlt : 1 < w.heap.size := World.block_lt_of_cell? w ⟨1, 0, none⟩ (hG.shape 0 _ rfl)
 have hk4 : k = 0 ∨ k = 1 ∨ k = 2 ∨ k = 3 := by omega
 rcases hk4 with rfl | rfl | rfl | rfl
 · have s0 := hG.shape 0 _ rfl
   have s1 := hG.shape 1 _ rfl
   clear hG hk
   go_enter Tryd.func96, Tryd.ntmps96
   go_wp2
   all_goals go_ret
   all_goals exact ⟨by first | (simp_all [vvalid, vbelow]; done) | (simp_all [vvalid, vbelow]; omega), below_alloc (below_alloc HB.out _) _⟩
 · have s0 := hG.shape 2 _ rfl
   have s1 := hG.shape 3 _ rfl
   clear hG hk
   go_enter Tryd.func96, Tryd.ntmps96
   go_wp2
   all_goals go_ret
   all_goals exact ⟨by first | (simp_all [vvalid, vbelow]; done) | (simp_all [vvalid, vbelow]; omega), below_alloc (below_alloc HB.out _) _⟩
 · have s0 := hG.shape 4 _ rfl
   have s1 := hG.shape 5 _ rfl
   clear hG hk
   go_enter Tryd.func96, Tryd.ntmps96
   go_wp2
   all_goals go_ret
   all_goals exact ⟨by first | (simp_all [vvalid, vbelow]; done) | (simp_all [vvalid, vbelow]; omega), below_alloc (below_alloc HB.out _) _⟩
 · have s0 := hG.shape 6 _ rfl
   have s1 := hG.shape 7 _ rfl
   clear hG hk
   go_enter Tryd.func96, Tryd.ntmps96
   go_wp2
   all_goals go_ret
   all_goals exact ⟨by first | (simp_all [vvalid, vbelow]; done) | (simp_all [vvalid, vbelow]; omega), below_alloc (below_alloc HB.out _) _⟩
mutual
def bits_check.l0 : Nat → List (S84) → Int → Int → Option (Int)
 | 0, _, _, _ => none
 | k + 1, x8, x9, x10 => if x10 < x9 then (if 0 ≤ x10 then (if x10 < (x8.length : Int) then (if ((rd_T84 x8 x10).f0) < 0 then (bits_check.j1 k x8 x9 x10 true ((rd_T84 x8 x10).f0) ((rd_T84 x8 x10).f1) ((rd_T84 x8 x10).f2)) else (if ((rd_T84 x8 x10).f0) ≥ 4 then (bits_check.j1 k x8 x9 x10 true ((rd_T84 x8 x10).f0) ((rd_T84 x8 x10).f1) ((rd_T84 x8 x10).f2)) else ((bits_valid.f ((rd_T84 x8 x10).f0) ((rd_T84 x8 x10).f1) ((rd_T84 x8 x10).f2)).bind fun t116 => (bits_check.j1 k x8 x9 x10 (!t116) ((rd_T84 x8 x10).f0) ((rd_T84 x8 x10).f1) ((rd_T84 x8 x10).f2))))) else (none)) else (none)) else (some 0)
def bits_check.j1 : Nat → List (S84) → Int → Int → Bool → Int → Int → ByteArray → Option (Int)
 | 0, _, _, _, _, _, _, _ => none
 | k + 1, x8, x9, x10, x26, x116000, x116001, x116002 => if x26 = true then (some 19) else (if (x116002.size : Int) > 4096 then (some 4) else (bits_check.l0 k x8 x9 (wrap64 (x10 + 1))))
end
def bits_check.f (k : Nat) (l0 : List (S84)) : Option (Int) := if (l0.length : Int) > 16 then (some 18) else (bits_check.l0 k l0 (l0.length : Int) 0)
set_option maxHeartbeats 8000000 in
set_option maxRecDepth 100000 in
theorem bits_check.calls (k : Nat) (A0 : Option Addr) (c0 : Nat) (l0 : List (S84)) (r : Int) (w : World) (hr0 : Kd.C k84 w A0 l0.length l0) (hc0 : l0.length ≤ c0) (h : bits_check.f k l0 = some r) (hG : GL w) :
 Calls Tryd.prog 72 #[.slice A0 l0.length c0] w fun e w' => e = .returned (.int .i64 r) ∧ Below w.heap.size w w' := by
 have hu84 := Tryd.underlying84
 have HR0 := Aside0.mk hr0
 have HC0 := Aside0.mk hc0
 clear hr0 hc0
 have HB := Aside0.mk (Below.refl w.heap.size w)
 have H : (if (l0.length : Int) > 16 then (some 18) else (bits_check.l0 k l0 (l0.length : Int) 0)) = some r := h
 clear h
 by_cases c2 : (l0.length : Int) > 16
 · rw [if_pos c2] at H
   have c2b0 : decide (16 < (l0.length : Int)) = true := decide_eq_true c2
   have c2b1 : decide (16 < l0.length) = true := decide_eq_true (by omega)
   clear c2
   obtain rfl := Option.some.inj H
   go_enter Tryd.func72, Tryd.ntmps72
   go_wp2
   go_ret
   exact ⟨by first | rfl | (simp [errW_none, errW_some] <;> rfl) | (simp [*, errW_none, errW_some] <;> rfl), by repeat (first | (with_reducible first | exact HB.out | apply below_alloc | apply pw_below_drewN | apply below_drew1) | exact HB.out)⟩
 · rw [if_neg c2] at H
   have c2b0 : decide (16 < (l0.length : Int)) = false := decide_eq_false c2
   have c2b1 : decide (16 < l0.length) = false := decide_eq_false (by omega)
   clear c2
   have H' := Aside0.mk H
   clear H
   go_enter Tryd.func72, Tryd.ntmps72
   go_wp2
   go_loopg [10] k (fun kq v10 w' => ∃ (x10_1 : Int), v10 = .int .i64 x10_1 ∧ Aside0 (bits_check.l0 kq l0 (l0.length : Int) x10_1 = some r) ∧ Aside0 (kq ≤ k) ∧ Aside0 (Below w.heap.size w w'))
   case atStart => exact ⟨(0), (by first | rfl | (simp; done) | (simp [*]; done)), H', ⟨Nat.le_refl _⟩, ⟨by repeat (first | (with_reducible first | exact HB.out | apply below_alloc | apply pw_below_drewN | apply below_drew1) | exact HB.out)⟩⟩
   case round =>
    clear H'
    (try clear c2); (try clear c2b0); (try clear c2b1); (try clear p2)
    obtain ⟨x10_1, rfl, HA, HK1, HB⟩ := hrel
    cases gk with
    | zero => exact absurd HA.out (by simp [bits_check.l0])
    | succ k1 =>
     have H := HA.out
     clear HA
     simp only [bits_check.l0] at H
     by_cases c3 : x10_1 < (l0.length : Int)
     · rw [if_pos c3] at H
       have c3b0 : decide (x10_1 < (l0.length : Int)) = true := decide_eq_true c3
       clear c3
       by_cases c4 : 0 ≤ x10_1
       · rw [if_pos c4] at H
         have c4b0 : decide (0 ≤ x10_1) = true := decide_eq_true c4
         clear c4
         by_cases c5 : x10_1 < (l0.length : Int)
         · rw [if_pos c5] at H
           have c5b0 : decide (x10_1 < (l0.length : Int)) = true := decide_eq_true c5
           clear c5
           have HC6 := Aside0.mk H
           clear H
           have p114 : 0 ≤ (x10_1 : Int) := of_decide_eq_true (by first | (with_reducible assumption) | assumption)
           have q114 : x10_1 < (l0.length : Int) := of_decide_eq_true (by first | (with_reducible assumption) | assumption)
           obtain ⟨ad114, e114, hx114_0, hx114_1, hx114_2⟩ := at_T84 HR0.out x10_1 p114 q114
           cases e114
           replace hx114_0 := (HB.out.cell (World.block_lt_of_cell? w _ hx114_0)).trans hx114_0
           replace hx114_1 := (HB.out.cell (World.block_lt_of_cell? w _ hx114_1)).trans hx114_1
           replace hx114_2 := (HB.out.cell (World.block_lt_of_cell? w _ hx114_2)).trans hx114_2
           replace p114 := eq_true p114
           replace q114 := eq_true q114
           go_upto_region 6 with (first | ((with_reducible refine gate_dst (N := 4) rfl ?_); refine box_event ?hg (N := 4) ?hd (cs := #[.int .i64 0, .int .i64 0, .string (⟨#[]⟩ : ByteArray)]) (t := 84) ?hr ?_; (case hd => rfl); (case hg => rfl); (case hr => first | (go_simp; done) | (go_simp; rfl)); intro gb115 hg w7 hbox hb; have n0_ := Aside0.mk (below_step (by repeat (first | (with_reducible first | exact HB.out | apply below_alloc | apply pw_below_drewN | apply below_drew1) | exact HB.out)) hb); have n1_ := Aside0.mk (hbox); have n2_ := Aside0.mk ((by rw [hg]; exact (below_size (by repeat (first | (with_reducible first | exact HB.out | apply below_alloc | apply pw_below_drewN | apply below_drew1) | exact HB.out))) : w.heap.size ≤ gb115)); have n3_ := Aside0.mk ((by rw [hg]; exact (below_size (by repeat (first | (with_reducible first | exact HB.out | apply below_alloc | apply pw_below_drewN | apply below_drew1) | exact HB.out))) : w.heap.size ≤ gb115)); clear HB; have HB := n0_; have BK115 := n1_; have GW115 := n2_; have GE115 := n3_; clear n0_ n1_ n2_ n3_; clear hb hbox hg; have hcz8_0 : w7.cell? ⟨gb115, 0, none⟩ = some (.int .i64 0) := (blk_cell BK115.out 0).trans rfl; have hcz8_1 : w7.cell? ⟨gb115, 1, none⟩ = some (.int .i64 0) := (blk_cell BK115.out 1).trans rfl; have hcz8_2 : w7.cell? ⟨gb115, 2, none⟩ = some (.string (⟨#[]⟩ : ByteArray)) := (blk_cell BK115.out 2).trans rfl; have hfz8_0 := blk_frozen BK115.out 0; have hfz8_1 := blk_frozen BK115.out 1; have hfz8_2 := blk_frozen BK115.out 2))
           (try simp only [Act.put, List.setIfInBounds_toArray, List.set_cons_zero, List.set_cons_succ])
           go_cut [26] (fun v26 wc => ∃ (kq : Nat) (x26_5 : Bool), v26 = .bool x26_5 ∧ Aside0 (bits_check.j1 kq l0 (l0.length : Int) x10_1 x26_5 ((rd_T84 l0 x10_1).f0) ((rd_T84 l0 x10_1).f1) ((rd_T84 l0 x10_1).f2) = some r) ∧ Aside0 (kq ≤ k1) ∧ Aside0 (wc.heap[gb115]? = some (.cells #[.int .i64 ((rd_T84 l0 x10_1).f0), .int .i64 ((rd_T84 l0 x10_1).f1), .string ((rd_T84 l0 x10_1).f2)] 84 (0, 0))) ∧ Aside0 (Below w.heap.size w wc))
           case first =>
            have H := HC6.out
            clear HC6
            by_cases c9 : ((rd_T84 l0 x10_1).f0) < 0
            · rw [if_pos c9] at H
              have c9b0 : decide (((rd_T84 l0 x10_1).f0) < 0) = true := decide_eq_true c9
              clear c9
              (first | rw [c9b0] | (simp only [i64_w, i32_w]; rw [c9b0]) | skip)
              have H' := Aside0.mk H
              clear H
              have hcz10_0 : w7.cell? ⟨gb115, 0, none⟩ = some (.int .i64 0) := (blk_cell BK115.out 0).trans rfl
              have hcz10_1 : w7.cell? ⟨gb115, 1, none⟩ = some (.int .i64 0) := (blk_cell BK115.out 1).trans rfl
              have hcz10_2 : w7.cell? ⟨gb115, 2, none⟩ = some (.string (⟨#[]⟩ : ByteArray)) := (blk_cell BK115.out 2).trans rfl
              have hfz10_0 := blk_frozen BK115.out 0
              have hfz10_1 := blk_frozen BK115.out 1
              have hfz10_2 := blk_frozen BK115.out 2
              go_wp2
              go_meet
              case rel => exact ⟨_, (true), (by first | rfl | (simp; done) | (simp [*]; done)), H', ⟨by have := HK1.out; first | omega | exact Nat.le_refl _⟩, ⟨by (with_reducible repeat (first | refine blk_drewN ?_ _ | refine blk_drew ?_ | refine blk_alloc ?_ _)); refine blk_put (cs := #[.int .i64 ((rd_T84 l0 x10_1).f0), .int .i64 ((rd_T84 l0 x10_1).f1), .string (⟨#[]⟩ : ByteArray)]) ?_ 2 _ rfl; (with_reducible repeat (first | refine blk_drewN ?_ _ | refine blk_drew ?_ | refine blk_alloc ?_ _)); refine blk_put (cs := #[.int .i64 ((rd_T84 l0 x10_1).f0), .int .i64 0, .string (⟨#[]⟩ : ByteArray)]) ?_ 1 _ rfl; (with_reducible repeat (first | refine blk_drewN ?_ _ | refine blk_drew ?_ | refine blk_alloc ?_ _)); refine blk_put (cs := #[.int .i64 0, .int .i64 0, .string (⟨#[]⟩ : ByteArray)]) ?_ 0 _ rfl; (with_reducible repeat (first | refine blk_drewN ?_ _ | refine blk_drew ?_ | refine blk_alloc ?_ _)); exact BK115.out⟩, ⟨by repeat (first | (with_reducible first | exact HB.out | apply below_alloc | apply pw_below_drewN | apply below_drew1 | refine below_set ?_ GE115.out) | exact HB.out)⟩⟩
            · rw [if_neg c9] at H
              have c9b0 : decide (((rd_T84 l0 x10_1).f0) < 0) = false := decide_eq_false c9
              clear c9
              (first | rw [c9b0] | (simp only [i64_w, i32_w]; rw [c9b0]) | skip)
              by_cases c11 : ((rd_T84 l0 x10_1).f0) ≥ 4
              · rw [if_pos c11] at H
                have c11b0 : decide (4 ≤ ((rd_T84 l0 x10_1).f0)) = true := decide_eq_true c11
                clear c11
                have H' := Aside0.mk H
                clear H
                have hcz12_0 : w7.cell? ⟨gb115, 0, none⟩ = some (.int .i64 0) := (blk_cell BK115.out 0).trans rfl
                have hcz12_1 : w7.cell? ⟨gb115, 1, none⟩ = some (.int .i64 0) := (blk_cell BK115.out 1).trans rfl
                have hcz12_2 : w7.cell? ⟨gb115, 2, none⟩ = some (.string (⟨#[]⟩ : ByteArray)) := (blk_cell BK115.out 2).trans rfl
                have hfz12_0 := blk_frozen BK115.out 0
                have hfz12_1 := blk_frozen BK115.out 1
                have hfz12_2 := blk_frozen BK115.out 2
                go_wp2
                go_meet
                case rel => exact ⟨_, (true), (by first | rfl | (simp; done) | (simp [*]; done)), H', ⟨by have := HK1.out; first | omega | exact Nat.le_refl _⟩, ⟨by (with_reducible repeat (first | refine blk_drewN ?_ _ | refine blk_drew ?_ | refine blk_alloc ?_ _)); refine blk_put (cs := #[.int .i64 ((rd_T84 l0 x10_1).f0), .int .i64 ((rd_T84 l0 x10_1).f1), .string (⟨#[]⟩ : ByteArray)]) ?_ 2 _ rfl; (with_reducible repeat (first | refine blk_drewN ?_ _ | refine blk_drew ?_ | refine blk_alloc ?_ _)); refine blk_put (cs := #[.int .i64 ((rd_T84 l0 x10_1).f0), .int .i64 0, .string (⟨#[]⟩ : ByteArray)]) ?_ 1 _ rfl; (with_reducible repeat (first | refine blk_drewN ?_ _ | refine blk_drew ?_ | refine blk_alloc ?_ _)); refine blk_put (cs := #[.int .i64 0, .int .i64 0, .string (⟨#[]⟩ : ByteArray)]) ?_ 0 _ rfl; (with_reducible repeat (first | refine blk_drewN ?_ _ | refine blk_drew ?_ | refine blk_alloc ?_ _)); exact BK115.out⟩, ⟨by repeat (first | (with_reducible first | exact HB.out | apply below_alloc | apply pw_below_drewN | apply below_drew1 | refine below_set ?_ GE115.out) | exact HB.out)⟩⟩
              · rw [if_neg c11] at H
                have c11b0 : decide (4 ≤ ((rd_T84 l0 x10_1).f0)) = false := decide_eq_false c11
                clear c11
                replace H := Option.bind_eq_some_iff.mp H
                obtain ⟨t116, A130, H⟩ := H
                replace H : (bits_check.j1 k1 l0 (l0.length : Int) x10_1 (!t116) ((rd_T84 l0 x10_1).f0) ((rd_T84 l0 x10_1).f1) ((rd_T84 l0 x10_1).f2)) = some r := H
                have A13 := Aside0.mk A130
                clear A130
                have H' := Aside0.mk H
                clear H
                have hcz14_0 : w7.cell? ⟨gb115, 0, none⟩ = some (.int .i64 0) := (blk_cell BK115.out 0).trans rfl
                have hcz14_1 : w7.cell? ⟨gb115, 1, none⟩ = some (.int .i64 0) := (blk_cell BK115.out 1).trans rfl
                have hcz14_2 : w7.cell? ⟨gb115, 2, none⟩ = some (.string (⟨#[]⟩ : ByteArray)) := (blk_cell BK115.out 2).trans rfl
                have hfz14_0 := blk_frozen BK115.out 0
                have hfz14_1 := blk_frozen BK115.out 1
                have hfz14_2 := blk_frozen BK115.out 2
                go_wp2_with (first | (go_at_call 96; (with_reducible refine (bits_valid.calls ((rd_T84 l0 x10_1).f0) ((rd_T84 l0 x10_1).f1) ((rd_T84 l0 x10_1).f2) t116 _ A13.out (hG.below (by repeat (first | (with_reducible first | exact HB.out | apply below_alloc | apply pw_below_drewN | apply below_drew1 | refine below_set ?_ (Aside0.out (by assumption))) | exact HB.out)))).mono ?_); rintro e w15 ⟨rfl, hb⟩; have n0_ := Aside0.mk (blk_below (g := gb115) (o := .cells #[.int .i64 ((rd_T84 l0 x10_1).f0), .int .i64 ((rd_T84 l0 x10_1).f1), .string ((rd_T84 l0 x10_1).f2)] 84 (0, 0)) (by (with_reducible repeat (first | refine blk_drewN ?_ _ | refine blk_drew ?_ | refine blk_alloc ?_ _)); refine blk_put (cs := #[.int .i64 ((rd_T84 l0 x10_1).f0), .int .i64 ((rd_T84 l0 x10_1).f1), .string (⟨#[]⟩ : ByteArray)]) ?_ 2 _ rfl; (with_reducible repeat (first | refine blk_drewN ?_ _ | refine blk_drew ?_ | refine blk_alloc ?_ _)); refine blk_put (cs := #[.int .i64 ((rd_T84 l0 x10_1).f0), .int .i64 0, .string (⟨#[]⟩ : ByteArray)]) ?_ 1 _ rfl; (with_reducible repeat (first | refine blk_drewN ?_ _ | refine blk_drew ?_ | refine blk_alloc ?_ _)); refine blk_put (cs := #[.int .i64 0, .int .i64 0, .string (⟨#[]⟩ : ByteArray)]) ?_ 0 _ rfl; (with_reducible repeat (first | refine blk_drewN ?_ _ | refine blk_drew ?_ | refine blk_alloc ?_ _)); exact BK115.out) hb); have n1_ := Aside0.mk (below_step (by repeat (first | (with_reducible first | exact HB.out | apply below_alloc | apply pw_below_drewN | apply below_drew1 | refine below_set ?_ GE115.out) | exact HB.out)) hb); clear BK115; clear HB; have BK115 := n0_; have HB := n1_; clear n0_ n1_; (try clear hb); (try clear hb2); (try clear hk); (try clear hi)))
                go_meet
                case rel => exact ⟨_, (!t116), (by first | rfl | (simp; done) | (simp [*]; done)), H', ⟨by have := HK1.out; first | omega | exact Nat.le_refl _⟩, ⟨by (with_reducible repeat (first | refine blk_drewN ?_ _ | refine blk_drew ?_ | refine blk_alloc ?_ _)); exact BK115.out⟩, ⟨by repeat (first | (with_reducible first | exact HB.out | apply below_alloc | apply pw_below_drewN | apply below_drew1 | refine below_set ?_ GE115.out) | exact HB.out)⟩⟩
           case rest =>
            clear HC6
            (try clear c1); (try clear p1); (try clear q1); (try clear hx1); (try clear c2); (try clear c2b0); (try clear c2b1); (try clear p2); (try clear c3); (try clear c3b0); (try clear c4); (try clear c4b0); (try clear c5); (try clear c5b0); (try clear c7); (try clear c9); (try clear c9b0); (try clear c11); (try clear c11b0); (try clear p11); (try clear q11); (try clear hx11); (try clear hcz10_0); (try clear hcz10_1); (try clear hcz10_2); (try clear hcz12_0); (try clear hcz12_1); (try clear hcz12_2); (try clear hcz14_0); (try clear hcz14_1); (try clear hcz14_2); (try clear hcz8_0); (try clear hcz8_1); (try clear hcz8_2); (try clear hfz10_0); (try clear hfz10_1); (try clear hfz10_2); (try clear hfz12_0); (try clear hfz12_1); (try clear hfz12_2); (try clear hfz14_0); (try clear hfz14_1); (try clear hfz14_2); (try clear hfz8_0); (try clear hfz8_1); (try clear hfz8_2); (try clear hx114_0); (try clear hx114_1); (try clear hx114_2); (try clear p114); (try clear p2); (try clear q114)
            obtain ⟨kq, x26_5, rfl, HA, HJ5, BK115, HB⟩ := hcut
            cases kq with
            | zero => exact absurd HA.out (by simp [bits_check.j1])
            | succ kj5 =>
             have H := HA.out
             clear HA
             simp only [bits_check.j1] at H
             by_cases c16 : x26_5 = true
             · subst c16
               have H1 : (some 19) = some r := by rw [if_pos rfl] at H; exact H
               clear H
               have H := H1
               clear H1
               obtain rfl := Option.some.inj H
               go_wp2
               go_ret
               exact ⟨by first | rfl | (simp [errW_none, errW_some] <;> rfl) | (simp [*, errW_none, errW_some] <;> rfl), by repeat (first | (with_reducible first | exact HB.out | apply below_alloc | apply pw_below_drewN | apply below_drew1 | refine below_set ?_ GE115.out) | exact HB.out)⟩
             · replace c16 := Bool.eq_false_iff.mpr c16
               subst c16
               have H1 : (if (((rd_T84 l0 x10_1).f2).size : Int) > 4096 then (some 4) else (bits_check.l0 kj5 l0 (l0.length : Int) (wrap64 (x10_1 + 1)))) = some r := by rw [if_neg (show ¬ (false = true) by decide)] at H; exact H
               clear H
               have H := H1
               clear H1
               by_cases c17 : (((rd_T84 l0 x10_1).f2).size : Int) > 4096
               · rw [if_pos c17] at H
                 have c17b0 : decide (4096 < (((rd_T84 l0 x10_1).f2).size : Int)) = true := decide_eq_true c17
                 have c17b1 : decide (4096 < ((rd_T84 l0 x10_1).f2).size) = true := decide_eq_true (by omega)
                 clear c17
                 obtain rfl := Option.some.inj H
                 have hcz18_0 : wc.cell? ⟨gb115, 0, none⟩ = some (.int .i64 ((rd_T84 l0 x10_1).f0)) := (blk_cell BK115.out 0).trans rfl
                 have hcz18_1 : wc.cell? ⟨gb115, 1, none⟩ = some (.int .i64 ((rd_T84 l0 x10_1).f1)) := (blk_cell BK115.out 1).trans rfl
                 have hcz18_2 : wc.cell? ⟨gb115, 2, none⟩ = some (.string ((rd_T84 l0 x10_1).f2)) := (blk_cell BK115.out 2).trans rfl
                 have hfz18_0 := blk_frozen BK115.out 0
                 have hfz18_1 := blk_frozen BK115.out 1
                 have hfz18_2 := blk_frozen BK115.out 2
                 go_wp2
                 go_ret
                 exact ⟨by first | rfl | (simp [errW_none, errW_some] <;> rfl) | (simp [*, errW_none, errW_some] <;> rfl), by repeat (first | (with_reducible first | exact HB.out | apply below_alloc | apply pw_below_drewN | apply below_drew1 | refine below_set ?_ GE115.out) | exact HB.out)⟩
               · rw [if_neg c17] at H
                 have c17b0 : decide (4096 < (((rd_T84 l0 x10_1).f2).size : Int)) = false := decide_eq_false c17
                 have c17b1 : decide (4096 < ((rd_T84 l0 x10_1).f2).size) = false := decide_eq_false (by omega)
                 clear c17
                 have H' := Aside0.mk H
                 clear H
                 have hcz19_0 : wc.cell? ⟨gb115, 0, none⟩ = some (.int .i64 ((rd_T84 l0 x10_1).f0)) := (blk_cell BK115.out 0).trans rfl
                 have hcz19_1 : wc.cell? ⟨gb115, 1, none⟩ = some (.int .i64 ((rd_T84 l0 x10_1).f1)) := (blk_cell BK115.out 1).trans rfl
                 have hcz19_2 : wc.cell? ⟨gb115, 2, none⟩ = some (.string ((rd_T84 l0 x10_1).f2)) := (blk_cell BK115.out 2).trans rfl
                 have hfz19_0 := blk_frozen BK115.out 0
                 have hfz19_1 := blk_frozen BK115.out 1
                 have hfz19_2 := blk_frozen BK115.out 2
                 go_wp2
                 go_roundg kj5
                 case measure => have := HK1.out; have := HJ5.out; omega
                 case rel => exact ⟨(wrap64 (x10_1 + 1)), (by first | rfl | (simp; done) | (simp [*]; done)), H', ⟨by have := HK1.out; have := HJ5.out; omega⟩, ⟨by repeat (first | (with_reducible first | exact HB.out | apply below_alloc | apply pw_below_drewN | apply below_drew1 | refine below_set ?_ GE115.out) | exact HB.out)⟩⟩
         · rw [if_neg c5] at H
           exact absurd H (by simp)
       · rw [if_neg c4] at H
         exact absurd H (by simp)
     · rw [if_neg c3] at H
       have c3b0 : decide (x10_1 < (l0.length : Int)) = false := decide_eq_false c3
       clear c3
       obtain rfl := Option.some.inj H
       go_wp2
       go_ret
       exact ⟨by first | rfl | (simp [errW_none, errW_some] <;> rfl) | (simp [*, errW_none, errW_some] <;> rfl), by repeat (first | (with_reducible first | exact HB.out | apply below_alloc | apply pw_below_drewN | apply below_drew1) | exact HB.out)⟩
theorem Bs.step_str {w0 W : World} {base : Nat} {P : Program} {ops : Array Oper} {o : Oper} {a : Act} {K : Act → World → Prop} {Q : Exit → Act → World → Prop} {E : Prop} (hgd : o.guard = none) (s x : Operand) (t u : TypeId)
 (ho : o.op = .call { callee := .builtin .append, args := #[s, x], argTypes := #[t, u] }) (ht : P.underlying t = some (.slice 5)) (hu : P.underlying u = some .string) (hinfo : (P.info? 5).map (fun i => (i.zero, i.size, i.bytes)) = some (some (.int .u8 0), 1, 1))
 (v : Value) (xs : List Int) (y : ByteArray) (hs : a.eval s = v) (hx : a.eval x = .string y) (HB : Bs w0 W base v xs) (hl : xs.length + y.size ≤ 2000000000)
 (h : ∀ v1 w1, Bs w0 w1 base v1 (xs ++ bytesOf y) → Kept W w1 → K (a.put o.dst v1) w1) : if Region.wanted o (yielded ops a.tmps) = true then Oper.wp P o a W K Q else E := by
 have hw : Region.wanted o (yielded ops a.tmps) = true := by simp [Region.wanted, hgd]
 rw [if_pos hw]
 obtain ⟨i0, hi, hzz⟩ := Option.map_eq_some_iff.1 hinfo
 simp only [Prod.mk.injEq] at hzz
 obtain ⟨hz0, hz1, hz2⟩ := hzz
 obtain ⟨v1, w1, hrun, hown, hg, _⟩ := Lib.run_append_own_string (P := P) W base t u o.type 5 i0 ht hu hi hz0 hz1 hz2 v xs.length (nums .u8 xs) HB.1 y (by simp only [maxLen]; omega) (by omega) HB.2.2
 have hl2 : (xs ++ bytesOf y).length = xs.length + y.size := by rw [List.length_append, bytesOf_length]
 have hc : nums .u8 (xs ++ bytesOf y) = nums .u8 xs ++ Lib.strCells y := by
  rw [nums_append]
  congr 1
  simp [nums, bytesOf, Lib.strCells]
 unfold Oper.wp
 simp [execOp, ho, resolve, invoke, builtin, hs, hx, hrun, Result.andThen]
 exact h v1 w1 ⟨by rw [hl2, hc]; exact hown, HB.2.1.grown hg HB.2.2 (own_base HB.1), Nat.le_trans HB.2.2 hg.size⟩ (Kept.of HB.1 hg)
def zz (i : Int) : Int := if 0 ≤ i then 2 * i else -2 * i - 1
def colB (k i : Int) (t : ByteArray) : List Int := if k = 0 then [] else if k = 1 then [i % 256] else if k = 2 then uv 10 (zz i) else uv 10 (t.size : Int) ++ bytesOf t
theorem uv_length : ∀ n x, (uv n x).length ≤ n := by
 intro n
 induction n with
 | zero => intro x; simp [uv]
 | succ n ih =>
  intro x
  unfold uv
  split
  · simp
  · have := ih (x / 128); simp; omega
theorem uv_byte : ∀ n x, 0 ≤ x → ∀ y ∈ uv n x, 0 ≤ y ∧ y < 256 := by
 intro n
 induction n with
 | zero => intro x _ y hy; simp [uv] at hy
 | succ n ih =>
  intro x hx y hy
  unfold uv at hy
  split at hy
  · simp only [List.mem_singleton] at hy; omega
  · simp only [List.mem_cons] at hy
    rcases hy with rfl | hy
    · omega
    · exact ih _ (by omega) y hy
theorem bytes_str {xs : List Int} (h : ∀ y ∈ xs, 0 ≤ y ∧ y < 256) : bytesOf (strOfNums xs) = xs := by
 unfold bytesOf
 rw [strOfNums_data, List.map_map]
 have : xs.map ((fun b : UInt8 => (b.toNat : Int)) ∘ fun n : Int => UInt8.ofNat n.toNat) = xs.map id := by
  apply List.map_congr_left
  intro y hy
  have := h y hy
  simp only [Function.comp, id, UInt8.toNat_ofNat']
  omega
 rw [this, List.map_id]
theorem col0 (k i : Int) (t : ByteArray) (w0 W : World) (base : Nat) (v : Value) (xs : List Int) (HB : Bs w0 W base v xs) :
 Calls Tryd.prog 98 #[v, .agg #[.int .i64 k, .int .i64 i, .string t]] W fun e w' => ∃ v1, e = .returned v1 ∧ Bs w0 w' base v1 (xs ++ []) := by
 have HB := Aside0.mk HB
 go_enter Tryd.func98, Tryd.ntmps98
 go_wp2
 go_ret
 exact ⟨_, rfl, by rw [List.append_nil]; exact HB.out.alloc _⟩
set_option maxHeartbeats 2000000 in
theorem col1 (k i : Int) (t : ByteArray) (w0 W : World) (base : Nat) (v : Value) (xs : List Int) (HB : Bs w0 W base v xs) (hl : xs.length ≤ 1000000) :
 Calls Tryd.prog 101 #[v, .agg #[.int .i64 k, .int .i64 i, .string t]] W fun e w' => ∃ v1, e = .returned v1 ∧ Bs w0 w' base v1 (xs ++ [i % 256]) := by
 have HB := Aside0.mk HB
 go_enter Tryd.func101, Tryd.ntmps101
 go_wp2_with (first | ((with_reducible refine gate_builtin (b := .append) (xs := #[.tmp 5, .tmp 9]) rfl ?_); at_builtin; refine Bs.one (w0 := w0) (base := base) rfl (.tmp 5) (.tmp 9) 66 rfl Tryd.underlying66 info5 v xs (i % 256) rfl _ (World.size_alloc _ _).symm rfl (HB.out.alloc _) (by omega) ?_; intro v1 w1 h1 _; have H1 := Aside0.mk h1; clear h1))
 go_ret
 exact ⟨_, rfl, H1.out⟩
theorem u64_shl1 (i : Int) (h0 : -9223372036854775808 ≤ i) (h1 : i ≤ 9223372036854775807) : Go.bits .xor .u64 (IntKind.u64.wrap (IntKind.u64.wrap i * 2)) (IntKind.u64.wrap (i / 9223372036854775808)) = zz i := by
 unfold zz
 by_cases h : 0 ≤ i
 · rw [if_pos h]
   have e1 : i / 9223372036854775808 = 0 := by omega
   have e2 : IntKind.u64.wrap (IntKind.u64.wrap i * 2) = 2 * i := by simp [IntKind.wrap, IntKind.signed, IntKind.bits]; omega
   rw [e1, e2, show IntKind.u64.wrap 0 = 0 from rfl, bits_xor_0 _ (by omega) (by omega)]
 · rw [if_neg h]
   have e1 : i / 9223372036854775808 = -1 := by omega
   have e2 : IntKind.u64.wrap (IntKind.u64.wrap i * 2) = 2 * i + 18446744073709551616 := by simp [IntKind.wrap, IntKind.signed, IntKind.bits]; omega
   rw [e1, e2, show IntKind.u64.wrap (-1) = 18446744073709551615 from rfl, bits_xor_1 _ (by omega) (by omega)]
   omega
theorem svar (i : Int) (h0 : -9223372036854775808 ≤ i) (h1 : i ≤ 9223372036854775807) (w : World) :
 Calls Tryd.prog 106 #[.int .i64 i] w fun e w' => e = .returned (.string (strOfNums (uv 10 (zz i)))) ∧ Below w.heap.size w w' := by
 have hz := u64_shl1 i h0 h1
 have hz0 : 0 ≤ zz i := by unfold zz; split <;> omega
 have hz1 : zz i < 18446744073709551616 := by unfold zz; split <;> omega
 have HU : Aside0 (bits_Uvarint.f (zz i) = some (strOfNums (uv 10 (zz i)))) := ⟨by unfold bits_Uvarint.f; rw [if_pos ⟨hz0, hz1⟩]⟩
 clear hz0 hz1
 go_enter Tryd.func106, Tryd.ntmps106
 go_wp2_with (first | (go_at_call 45; go_must (refine (bits_Uvarint.calls (zz i) _ _ HU.out).mono ?_; rintro e w' ⟨rfl, hb⟩)))
 go_ret
 exact ⟨rfl, hb⟩
set_option maxHeartbeats 2000000 in
theorem col2 (k i : Int) (t : ByteArray) (w0 W : World) (base : Nat) (v : Value) (xs : List Int) (HB : Bs w0 W base v xs) (hl : xs.length ≤ 1000000) (h0 : -9223372036854775808 ≤ i) (h1 : i ≤ 9223372036854775807) :
 Calls Tryd.prog 105 #[v, .agg #[.int .i64 k, .int .i64 i, .string t]] W fun e w' => ∃ v1, e = .returned v1 ∧ Bs w0 w' base v1 (xs ++ uv 10 (zz i)) := by
 have HB := Aside0.mk HB
 obtain ⟨Y, hY⟩ : ∃ Y, Y = strOfNums (uv 10 (zz i)) := ⟨_, rfl⟩
 have HY : Aside0 (bytesOf Y = uv 10 (zz i)) := ⟨by rw [hY]; exact bytes_str (uv_byte 10 (zz i) (by unfold zz; split <;> omega))⟩
 have hs := svar i h0 h1
 rw [← hY] at hs
 have hYs : Y.size ≤ 10 := by rw [hY, strOfNums_size]; exact uv_length 10 _
 clear hY
 go_enter Tryd.func105, Tryd.ntmps105
 go_wp2_with (first | (go_at_call 106; go_must (refine (hs _).mono ?_; rintro e w1 ⟨rfl, hb⟩; have H0 := Aside0.mk ((HB.out.alloc _).below hb); clear hb)) | ((with_reducible refine gate_builtin (b := .append) (xs := #[.tmp 5, .tmp 8]) rfl ?_); at_builtin; refine Bs.str (w0 := w0) (base := base) rfl (.tmp 5) (.tmp 8) 66 9 rfl Tryd.underlying66 Tryd.underlying9 info5 v xs Y rfl rfl H0.out (by omega) ?_; intro v1 w2 h1 _; rw [HY.out] at h1; have H1 := Aside0.mk h1; clear h1))
 go_ret
 exact ⟨_, rfl, H1.out⟩
set_option maxHeartbeats 4000000 in
set_option maxRecDepth 100000 in
theorem col3 (k i : Int) (t : ByteArray) (w0 W : World) (base : Nat) (v : Value) (xs : List Int) (HB : Bs w0 W base v xs) (hl : xs.length ≤ 1000000) (ht : t.size ≤ 1000000) :
 Calls Tryd.prog 110 #[v, .agg #[.int .i64 k, .int .i64 i, .string t]] W fun e w' => ∃ v1, e = .returned v1 ∧ Bs w0 w' base v1 (xs ++ (uv 10 (t.size : Int) ++ bytesOf t)) := by
 have HB := Aside0.mk HB
 have e1 : IntKind.u64.wrap (t.size : Int) = (t.size : Int) := by simp [IntKind.wrap, IntKind.signed, IntKind.bits]; omega
 have HU : Aside0 (bits_Uvarint.f (t.size : Int) = some (strOfNums (uv 10 (t.size : Int)))) := ⟨by unfold bits_Uvarint.f; rw [if_pos ⟨by omega, by omega⟩]⟩
 obtain ⟨Y, hY⟩ : ∃ Y, Y = strOfNums (uv 10 (t.size : Int)) := ⟨_, rfl⟩
 have HY : Aside0 (bytesOf Y = uv 10 (t.size : Int)) := ⟨by rw [hY]; exact bytes_str (uv_byte 10 _ (by omega))⟩
 rw [← hY] at HU
 have hYs : Y.size ≤ 10 := by rw [hY, strOfNums_size]; exact uv_length 10 _
 clear hY
 go_enter Tryd.func110, Tryd.ntmps110
 go_wp2_with fail
 go_region_law (first
  | (refine Bs.step_str (w0 := w0) (base := base) rfl (.tmp 5) (.tmp 10) 66 9 rfl Tryd.underlying66 Tryd.underlying9 info5 v xs Y rfl rfl H0.out (by omega) ?_; go_must (intro v1 w2 h1 hk; rw [HY.out] at h1; have H1 := Aside0.mk h1; have hq3 : w2.cell? ⟨W.heap.size, 2, none⟩ = some (.string t) := (blk_cell (hk W.heap.size _ 84 (by decide) hh) 2).trans rfl; clear h1))
  | (refine Bs.step_str (w0 := w0) (base := base) rfl (.tmp 11) (.tmp 13) 66 9 rfl Tryd.underlying66 Tryd.underlying9 info5 v1 (xs ++ uv 10 (t.size : Int)) t rfl rfl H1.out (by have := uv_length 10 (t.size : Int); simp only [List.length_append]; omega) ?_; go_must (intro v2 w3 h2 _; rw [List.append_assoc] at h2; have H2 := Aside0.mk h2; clear h2))
  | (go_simp; go_at_call 45; go_must (refine (bits_Uvarint.calls (t.size : Int) _ _ HU.out).mono ?_; rintro e w1 ⟨rfl, hb⟩; have hq : ∀ (j : Nat) (v : Value), (#[.int .i64 k, .int .i64 i, .string t] : Array Value)[j]? = some v → w1.cell? ⟨W.heap.size, j, none⟩ = some v := fun j v hv => pw_cell_below hb ((World.cell?_alloc_new W _ 84 j).trans hv); have hq2 := hq 2 _ rfl; have hh : w1.heap[W.heap.size]? = some (.cells #[.int .i64 k, .int .i64 i, .string t] 84 (0, 0)) := (hb.block W.heap.size (by show W.heap.size < (W.alloc _).heap.size; simp)).trans (heap_alloc_new W _); have H0 := Aside0.mk ((HB.out.alloc _).drew.below hb); clear hb hq)))
 all_goals go_wp2
 all_goals go_ret
 all_goals exact ⟨_, rfl, H2.out⟩
def grp (l : List S84) (i j : Nat) : Int :=
 (if i ≤ 4 * j then 0 else (rd_T84 l ((4 * j : Nat) : Int)).f0) + (if i ≤ 4 * j + 1 then 0 else 4 * (rd_T84 l ((4 * j + 1 : Nat) : Int)).f0)
 + (if i ≤ 4 * j + 2 then 0 else 16 * (rd_T84 l ((4 * j + 2 : Nat) : Int)).f0) + (if i ≤ 4 * j + 3 then 0 else 64 * (rd_T84 l ((4 * j + 3 : Nat) : Int)).f0)
def hdB (l : List S84) (i : Nat) : List Int := (l.length : Int) :: (List.range ((l.length + 3) / 4)).map (grp l i)
def colV (x : S84) : List Int := colB x.f0 x.f1 x.f2
def rowB (l : List S84) : List Int := hdB l l.length ++ l.flatMap colV
theorem hdB_length (l : List S84) (i : Nat) : (hdB l i).length = 1 + (l.length + 3) / 4 := by simp [hdB]; omega
theorem grp_ne (l : List S84) (i n : Nat) (h : n ≠ i / 4) : grp l (i + 1) n = grp l i n := by
 have h0 : (i + 1 ≤ 4 * n) = (i ≤ 4 * n) := propext (by omega)
 have h1 : (i + 1 ≤ 4 * n + 1) = (i ≤ 4 * n + 1) := propext (by omega)
 have h2 : (i + 1 ≤ 4 * n + 2) = (i ≤ 4 * n + 2) := propext (by omega)
 have h3 : (i + 1 ≤ 4 * n + 3) = (i ≤ 4 * n + 3) := propext (by omega)
 unfold grp
 simp only [h0, h1, h2, h3]
theorem grp_zero (l : List S84) (n : Nat) : grp l 0 n = 0 := by
 unfold grp
 rw [if_pos (by omega), if_pos (by omega), if_pos (by omega), if_pos (by omega)]
 rfl
theorem bits_or_grp (m : Nat) (hm : m < 4) (b k : Int) (h0 : 0 ≤ b) (h1 : b < 4 ^ m) (k0 : 0 ≤ k) (k1 : k < 4) : Go.bits .or .u8 b (k * 4 ^ m) = b + k * 4 ^ m := by
 have h : ∀ m : Fin 4, ∀ k : Fin 4, ∀ b : Fin 64, b.val < 4 ^ m.val → Go.bits .or .u8 (b.val : Int) ((k.val : Int) * 4 ^ m.val) = (b.val : Int) + (k.val : Int) * 4 ^ m.val := by decide +kernel
 obtain ⟨b, rfl⟩ := Int.eq_ofNat_of_zero_le h0
 obtain ⟨k, rfl⟩ := Int.eq_ofNat_of_zero_le k0
 have hb : b < 4 ^ m := by exact_mod_cast h1
 have hp : 4 ^ m ≤ 64 := by
  have : m = 0 ∨ m = 1 ∨ m = 2 ∨ m = 3 := by omega
  rcases this with rfl | rfl | rfl | rfl <;> decide
 have hb64 : b < 64 := Nat.lt_of_lt_of_le hb hp
 exact h ⟨m, hm⟩ ⟨k, by omega⟩ ⟨b, hb64⟩ hb
theorem grp_step (l : List S84) (i : Nat) (hg : ∀ k, k < l.length → 0 ≤ (rd_T84 l (k : Int)).f0 ∧ (rd_T84 l (k : Int)).f0 < 4) (hi : i < l.length) :
 0 ≤ grp l i (i / 4) ∧ grp l i (i / 4) < 4 ^ (i % 4) ∧ grp l (i + 1) (i / 4) = grp l i (i / 4) + (rd_T84 l (i : Int)).f0 * 4 ^ (i % 4) := by
 obtain ⟨q, m, hm, rfl⟩ : ∃ q m, m < 4 ∧ i = 4 * q + m := ⟨i / 4, i % 4, by omega, by omega⟩
 have e1 : (4 * q + m) / 4 = q := by omega
 have e2 : (4 * q + m) % 4 = m := by omega
 rw [e1, e2]
 have : m = 0 ∨ m = 1 ∨ m = 2 ∨ m = 3 := by omega
 have g0 := hg (4 * q) (by omega)
 rcases this with rfl | rfl | rfl | rfl
 · unfold grp
   simp only [show ¬ (4 * q + 0 + 1 ≤ 4 * q) by omega, show 4 * q + 0 ≤ 4 * q by omega, show 4 * q + 0 ≤ 4 * q + 1 by omega, show 4 * q + 0 ≤ 4 * q + 2 by omega, show 4 * q + 0 ≤ 4 * q + 3 by omega, show 4 * q + 0 + 1 ≤ 4 * q + 1 by omega, show 4 * q + 0 + 1 ≤ 4 * q + 2 by omega, show 4 * q + 0 + 1 ≤ 4 * q + 3 by omega, if_true, if_false, Nat.add_zero]
   omega
 · have g1 := hg (4 * q + 1) hi
   unfold grp
   simp only [show ¬ (4 * q + 1 + 1 ≤ 4 * q) by omega, show ¬ (4 * q + 1 + 1 ≤ 4 * q + 1) by omega, show ¬ (4 * q + 1 ≤ 4 * q) by omega, show 4 * q + 1 ≤ 4 * q + 1 by omega, show 4 * q + 1 ≤ 4 * q + 2 by omega, show 4 * q + 1 ≤ 4 * q + 3 by omega, show 4 * q + 1 + 1 ≤ 4 * q + 2 by omega, show 4 * q + 1 + 1 ≤ 4 * q + 3 by omega, if_true, if_false]
   omega
 · have g1 := hg (4 * q + 1) (by omega)
   have g2 := hg (4 * q + 2) hi
   unfold grp
   simp only [show ¬ (4 * q + 2 + 1 ≤ 4 * q) by omega, show ¬ (4 * q + 2 + 1 ≤ 4 * q + 1) by omega, show ¬ (4 * q + 2 + 1 ≤ 4 * q + 2) by omega, show ¬ (4 * q + 2 ≤ 4 * q) by omega, show ¬ (4 * q + 2 ≤ 4 * q + 1) by omega, show 4 * q + 2 ≤ 4 * q + 2 by omega, show 4 * q + 2 ≤ 4 * q + 3 by omega, show 4 * q + 2 + 1 ≤ 4 * q + 3 by omega, if_true, if_false]
   omega
 · have g1 := hg (4 * q + 1) (by omega)
   have g2 := hg (4 * q + 2) (by omega)
   have g3 := hg (4 * q + 3) hi
   unfold grp
   simp only [show ¬ (4 * q + 3 + 1 ≤ 4 * q) by omega, show ¬ (4 * q + 3 + 1 ≤ 4 * q + 1) by omega, show ¬ (4 * q + 3 + 1 ≤ 4 * q + 2) by omega, show ¬ (4 * q + 3 + 1 ≤ 4 * q + 3) by omega, show ¬ (4 * q + 3 ≤ 4 * q) by omega, show ¬ (4 * q + 3 ≤ 4 * q + 1) by omega, show ¬ (4 * q + 3 ≤ 4 * q + 2) by omega, show 4 * q + 3 ≤ 4 * q + 3 by omega, if_true, if_false]
   omega
theorem hdB_step (l : List S84) (i : Nat) (hi : i < l.length) : (hdB l i).set (1 + i / 4) (grp l (i + 1) (i / 4)) = hdB l (i + 1) := by
 unfold hdB
 rw [show 1 + i / 4 = i / 4 + 1 by omega, List.set_cons_succ]
 congr 1
 apply List.ext_getElem
 · simp
 · intro n h1 h2
   simp only [List.length_set, List.length_map, List.length_range] at h1
   rw [List.getElem_set]
   split
   · rename_i h; simp [← h]
   · rename_i h
     simp only [List.getElem_map, List.getElem_range]
     exact (grp_ne l i n (fun e => h e.symm)).symm
theorem hdB_at (l : List S84) (i : Nat) (hi : i < l.length) : (hdB l i)[1 + i / 4]? = some (grp l i (i / 4)) := by
 unfold hdB
 rw [show 1 + i / 4 = i / 4 + 1 by omega, List.getElem?_cons_succ]
 have : i / 4 < (l.length + 3) / 4 := by omega
 simp [this]
theorem colV_len (x : S84) (h : goodVal x) : (colV x).length ≤ 20000 := by
 obtain ⟨_, _, h2, h3, h4⟩ := h
 unfold colV colB
 split
 · simp
 split
 · simp
 split
 · have := uv_length 10 (zz x.f1); omega
 · have := uv_length 10 (x.f2.size : Int)
   rw [List.length_append, bytesOf_length]; omega
def bits_Row.f (k : Nat) (l : List S84) : Option (ByteArray × Int) :=
 (bits_check.f k l).bind fun e => if e = 0 then (if goodVals l then some (strOfNums (rowB l), 0) else none) else some (⟨#[]⟩, e)
set_option maxHeartbeats 4000000 in
set_option maxRecDepth 100000 in
theorem bits_Row.calls (k : Nat) (A0 : Option Addr) (c0 : Nat) (l0 : List (S84)) (r1 : ByteArray) (r2 : Int) (w : World) (hr0 : Kd.C k84 w A0 l0.length l0) (hc0 : l0.length ≤ c0) (h : bits_Row.f k l0 = some (r1, r2)) (hG : GL w) :
 Calls Tryd.prog 37 #[.slice A0 l0.length c0] w fun e w' => e = .returned (.tuple #[.string r1, .int .i64 r2]) ∧ Below w.heap.size w w' := by
 unfold bits_Row.f at h
 obtain ⟨e0, he0, h⟩ := Option.bind_eq_some_iff.1 h
 have HE := Aside0.mk he0
 have HR0 := Aside0.mk hr0
 have HG := Aside0.mk hG
 clear he0 hr0 hG
 by_cases hz : e0 = 0
 case neg =>
  rw [if_neg hz] at h
  simp only [Option.some.injEq, Prod.mk.injEq] at h
  obtain ⟨rfl, rfl⟩ := h
  have d1 : decide (e0 = 0) = false := decide_eq_false hz
  go_enter Tryd.func37, Tryd.ntmps37
  go_wp2_with (first | (go_at_call 72; refine (bits_check.calls k A0 c0 l0 e0 _ HR0.out hc0 HE.out HG.out).mono ?_; rintro e w1 ⟨rfl, hb⟩))
  go_ret2
  exact ⟨rfl, hb⟩
 subst hz
 rw [if_pos rfl] at h
 by_cases hg : goodVals l0
 case neg => rw [if_neg hg] at h; exact absurd h (by simp)
 rw [if_pos hg] at h
 simp only [Option.some.injEq, Prod.mk.injEq] at h
 obtain ⟨hr, rfl⟩ := h
 have Hr := Aside0.mk hr
 have HGV := Aside0.mk hg
 have hl16 : l0.length ≤ 16 := hg.1
 have hg4 : ∀ k, k < l0.length → 0 ≤ (rd_T84 l0 (k : Int)).f0 ∧ (rd_T84 l0 (k : Int)).f0 < 4 := fun k hk => ⟨(goodVals_at hg k hk).1, (goodVals_at hg k hk).2.1⟩
 have HG4 := Aside0.mk hg4
 clear hr hg hg4
 obtain ⟨N, hN⟩ : ∃ N, N = 1 + (l0.length + 3) / 4 := ⟨_, rfl⟩
 have eN : (1 : Int) + ((l0.length : Int) + 3) / 4 = (N : Int) := by omega
 have hN5 : N ≤ 5 := by omega
 obtain ⟨i0, hi, hz0, hz1, hz2⟩ := info_parts info5
 have hmk : ∀ u : World, (Instr.makeSlice 66 (.int .i64 (N : Int)) (.int .i64 (N : Int))).run Tryd.prog u =
  .ok (.slice (some ⟨u.heap.size, 0, none⟩) N N) (u.alloc (.cells (nums .u8 (List.replicate N 0)).toArray 5)) := fun u => by
  have h := run_make (P := Tryd.prog) u 66 5 i0 (.int .u8 0) Tryd.underlying66 hi hz0 .i64 .i64 (N : Int) (N : Int) (by omega) (by omega) (by rw [hz2]; omega) (by omega)
  have hm : madeCells #[.int .u8 0] N = (nums .u8 (List.replicate N 0)).toArray := by
   apply Array.ext
   · simp [madeCells, nums]
   · intro j h1 h2; simp [madeCells, nums, Nat.mod_one]
  simpa [hz1, Value.cells, hm] using h
 have hN0 : (nums .u8 (List.replicate N 0)).toArray[0]? = some (.int .u8 0) := by
  rw [nums_at .u8 _ 0 (by simp; omega)]
  simp
 have HN := Aside0.mk hN
 clear hi hz0 hz1 hz2 hN h
 go_enter Tryd.func37, Tryd.ntmps37
 go_wp2_with (first | (go_at_call 72; refine (bits_check.calls k A0 c0 l0 0 _ HR0.out hc0 HE.out HG.out).mono ?_; rintro e w1 ⟨rfl, hb⟩; have HB1 := Aside0.mk hb; clear hb))
 clear hmk hN0
 have HH0 : Aside0 ((w1.alloc (Obj.cells ((nums IntKind.u8 (List.replicate N 0)).set 0 (Value.int IntKind.u8 ↑l0.length)).toArray 5)).heap[w1.heap.size]? = some (.cells (nums .u8 (hdB l0 0)).toArray 5 (0, 0))) := by
  constructor
  rw [heap_alloc_new]
  have : (nums IntKind.u8 (List.replicate N 0)).set 0 (Value.int IntKind.u8 ↑l0.length) = nums .u8 (hdB l0 0) := by
   have e : grp l0 0 = fun _ => 0 := funext (grp_zero l0)
   rw [HN.out, show 1 + (l0.length + 3) / 4 = (l0.length + 3) / 4 + 1 by omega]
   unfold hdB nums
   rw [e]
   simp [List.replicate_succ, List.map_const']
  rw [this]
 go_loopw [30] (fun v30 wr => ∃ (n : Nat), n ≤ l0.length ∧ v30 = .int .i64 (n : Int) ∧ Aside0 (wr.heap[w1.heap.size]? = some (.cells (nums .u8 (hdB l0 n)).toArray 5 (0, 0))) ∧ Aside0 (Below w.heap.size w wr)) (fun v30 _ => l0.length - (intOf v30).toNat)
 case atStart => exact ⟨0, Nat.zero_le _, rfl, HH0, ⟨below_alloc HB1.out _⟩⟩
 case round =>
  clear HH0
  obtain ⟨n, hn, rfl, HH, HBR⟩ := hrel
  by_cases hlt : n < l0.length
  · have d1 : decide ((n : Int) < (l0.length : Int)) = true := decide_eq_true (by omega)
    have d2 : decide (n < l0.length) = true := decide_eq_true hlt
    obtain ⟨ad, e1, h0, h1, h2⟩ := at_T84 HR0.out (n : Int) (by omega) (by omega)
    cases e1
    simp only [Int.toNat_natCast] at h0 h1 h2
    replace h0 := (HBR.out.cell (World.block_lt_of_cell? w _ h0)).trans h0
    replace h1 := (HBR.out.cell (World.block_lt_of_cell? w _ h1)).trans h1
    replace h2 := (HBR.out.cell (World.block_lt_of_cell? w _ h2)).trans h2
    obtain ⟨q0, q1, q2⟩ := grp_step l0 n HG4.out hlt
    have hk := HG4.out n hlt
    generalize rd_T84 l0 (n : Int) = x at *
    obtain ⟨x0, x1, x2⟩ := x
    simp only at hk q2
    obtain ⟨g0, g1⟩ := hk
    have hcell : wr.cell? ⟨w1.heap.size, 1 + n / 4, none⟩ = some (.int .u8 (grp l0 n (n / 4))) := by
     rw [blk_cell HH.out, List.getElem?_toArray, nums, List.getElem?_map, hdB_at l0 n hlt]; rfl
    have hfr := blk_frozen HH.out (1 + n / 4)
    have hg0 : w1.heap.size < wr.heap.size := blk_lt HH.out
    have HH2 : ∀ (y : Int), y = grp l0 (n + 1) (n / 4) → ∀ (W : World), W.heap[w1.heap.size]? = some (.cells (nums .u8 (hdB l0 n)).toArray 5 (0, 0)) → (W.setCell ⟨w1.heap.size, 1 + n / 4, none⟩ (.int .u8 y)).heap[w1.heap.size]? = some (.cells (nums .u8 (hdB l0 (n + 1))).toArray 5 (0, 0)) := fun y hy W hW => blk_put hW (1 + n / 4) (.int .u8 y) (by rw [nums_set, hy, hdB_step l0 n hlt])
    have HH2 := Aside0.mk HH2
    obtain ⟨Q, hQ⟩ : ∃ Q, 1 + n / 4 = Q := ⟨_, rfl⟩
    have eQ : (1 : Int) + (n : Int) / 4 = (Q : Int) := by omega
    have dQ : decide ((Q : Int) < (N : Int)) = true := decide_eq_true (by have := HN.out; omega)
    have dQ2 : decide (Q < N) = true := decide_eq_true (by have := HN.out; omega)
    rw [hQ] at hcell hfr HH2
    clear hQ
    have hor := bits_or_grp (n % 4) (by omega) (grp l0 n (n / 4)) x0 q0 q1 g0 g1
    rw [← q2] at hor
    generalize grp l0 (n + 1) (n / 4) = B1 at *
    generalize grp l0 n (n / 4) = B0 at *
    have hm : n % 4 = 0 ∨ n % 4 = 1 ∨ n % 4 = 2 ∨ n % 4 = 3 := by omega
    rcases hm with hm | hm | hm | hm
    · have em : (n : Int) % 4 = 0 := by omega
      rw [hm] at hor
      rw [show x0 * 4 ^ 0 = x0 by simp] at hor
      clear hm q0 q1 q2
      go_wp2_with fail
      go_region
      go_wp2
      go_roundw
      case rel => exact ⟨n + 1, by omega, by go_num, ⟨blk_alloc (HH2.out _ rfl _ HH.out) _⟩, ⟨below_drew (below_alloc (below_set HBR.out HB1.out.size) _)⟩⟩
      case measure => simp [intOf]; omega
    · have em : (n : Int) % 4 = 1 := by omega
      rw [hm] at hor
      rw [show x0 * 4 ^ 1 = x0 * 4 by simp] at hor
      clear hm q0 q1 q2
      go_wp2_with fail
      go_region
      go_wp2
      go_roundw
      case rel => exact ⟨n + 1, by omega, by go_num, ⟨blk_alloc (HH2.out _ rfl _ HH.out) _⟩, ⟨below_drew (below_alloc (below_set HBR.out HB1.out.size) _)⟩⟩
      case measure => simp [intOf]; omega
    · have em : (n : Int) % 4 = 2 := by omega
      rw [hm] at hor
      rw [show x0 * 4 ^ 2 = x0 * 16 by simp] at hor
      clear hm q0 q1 q2
      go_wp2_with fail
      go_region
      go_wp2
      go_roundw
      case rel => exact ⟨n + 1, by omega, by go_num, ⟨blk_alloc (HH2.out _ rfl _ HH.out) _⟩, ⟨below_drew (below_alloc (below_set HBR.out HB1.out.size) _)⟩⟩
      case measure => simp [intOf]; omega
    · have em : (n : Int) % 4 = 3 := by omega
      rw [hm] at hor
      rw [show x0 * 4 ^ 3 = x0 * 64 by simp] at hor
      clear hm q0 q1 q2
      go_wp2_with fail
      go_region
      go_wp2
      go_roundw
      case rel => exact ⟨n + 1, by omega, by go_num, ⟨blk_alloc (HH2.out _ rfl _ HH.out) _⟩, ⟨below_drew (below_alloc (below_set HBR.out HB1.out.size) _)⟩⟩
      case measure => simp [intOf]; omega
  · have d1 : decide ((n : Int) < (l0.length : Int)) = false := decide_eq_false (by omega)
    have d2 : decide (n < l0.length) = false := decide_eq_false hlt
    obtain rfl : n = l0.length := by omega
    have hlen5 : (hdB l0 l0.length).length = N := by rw [hdB_length, HN.out]
    have HBS : Aside0 (Bs w wr w.heap.size (.slice (some ⟨w1.heap.size, 0, none⟩) N N) (hdB l0 l0.length)) := ⟨⟨by
     rw [hlen5]
     exact ⟨by simp [nums, hlen5], .inr ⟨w1.heap.size, N, _, rfl, HB1.out.size, HH.out, Nat.le_refl _, by simp [maxLen]; omega, by simp [nums, hlen5], by rw [Nat.mul_one, List.take_of_length_le (by simp [nums, hlen5])]⟩⟩, HBR.out, HBR.out.size⟩⟩
    go_wp2_with fail
    go_loopw [6, 53] (fun v6 v53 wr => ∃ (n : Nat), n ≤ l0.length ∧ v53 = .int .i64 (n : Int) ∧ Aside0 (Bs w wr w.heap.size v6 (hdB l0 l0.length ++ (l0.take n).flatMap colV))) (fun _ v53 _ => l0.length - (intOf v53).toNat)
    case atStart => exact ⟨0, Nat.zero_le _, rfl, ⟨by simpa using HBS.out⟩⟩
    case round =>
     clear HB1 HBR HH HBS hn hlt d1 d2 hlen5 HG4
     rename_i wr0 _ _
     obtain ⟨n, hn, rfl, HBS⟩ := hrel
     by_cases hlt : n < l0.length
     · have d1 : decide ((n : Int) < (l0.length : Int)) = true := decide_eq_true (by omega)
       have d2 : decide (n < l0.length) = true := decide_eq_true hlt
       obtain ⟨ad, e1, h0, h1, h2⟩ := at_T84 HR0.out (n : Int) (by omega) (by omega)
       cases e1
       simp only [Int.toNat_natCast] at h0 h1 h2
       replace h0 := (HBS.out.2.1.cell (World.block_lt_of_cell? w _ h0)).trans h0
       replace h1 := (HBS.out.2.1.cell (World.block_lt_of_cell? w _ h1)).trans h1
       replace h2 := (HBS.out.2.1.cell (World.block_lt_of_cell? w _ h2)).trans h2
       have HT : Aside0 (hdB l0 l0.length ++ (l0.take (n + 1)).flatMap colV = (hdB l0 l0.length ++ (l0.take n).flatMap colV) ++ colV (rd_T84 l0 (n : Int))) := ⟨by rw [rd_take (l := l0) colV n hlt, List.append_assoc]⟩
       have HX := Aside0.mk (goodVals_at HGV.out n hlt)
       have hlen : (hdB l0 l0.length ++ (l0.take n).flatMap colV).length ≤ 400000 := by
        have hh := flat_len (l := l0.take n) colV 20000 (fun x hx => colV_len x (HGV.out.2 x (List.mem_of_mem_take hx)))
        have : (l0.take n).length ≤ 16 := by simp; omega
        have := hdB_length l0 l0.length
        rw [List.length_append]
        omega
       have HLEN := Aside0.mk hlen
       clear hlen
       generalize rd_T84 l0 (n : Int) = x at *
       obtain ⟨x0, x1, x2⟩ := x
       obtain ⟨g0, g1, g2, g3, g4⟩ := HX.out
       simp only at g0 g1 g2 g3 g4
       clear HX
       have HI2 := Aside0.mk (And.intro g2 g3)
       have HI4 := Aside0.mk g4
       clear g2 g3 g4
       have hfl := codec_column
       have hk4 : x0 = 0 ∨ x0 = 1 ∨ x0 = 2 ∨ x0 = 3 := by omega
       clear g0 g1
       rcases hk4 with rfl | rfl | rfl | rfl
       · have HT2 : Aside0 (hdB l0 l0.length ++ (l0.take (n + 1)).flatMap colV = (hdB l0 l0.length ++ (l0.take n).flatMap colV) ++ []) := ⟨HT.out⟩
         clear HT
         go_wp2_with fail
         go_region_with (first
          | (go_at_call 73; go_must (refine (codecs_call0 _).mono ?_; rintro e w2 ⟨rfl, hb⟩; have hq : ∀ (j : Nat) (v : Value), (#[.int .i64 0, .int .i64 x1, .string x2] : Array Value)[j]? = some v → w2.cell? ⟨wr.heap.size, j, none⟩ = some v := fun j v hv => pw_cell_below hb ((World.cell?_alloc_new wr _ 84 j).trans hv); have hq0 := hq 0 _ rfl; have hq1 := hq 1 _ rfl; have hq2 := hq 2 _ rfl; have HBS2 := Aside0.mk ((HBS.out.alloc _).drew.below hb); clear hb hq))
          | (go_at_call 98; go_must (refine (col0 0 x1 x2 w _ w.heap.size u6 _ HBS2.out).mono ?_; rintro e w3 ⟨v3, rfl, hb3⟩; rw [← HT2.out] at hb3; have HB3 := Aside0.mk hb3; clear hb3)))
         all_goals go_wp2
         all_goals go_roundw
         all_goals first | exact ⟨n + 1, by omega, by go_num, HB3⟩ | (simp [intOf]; omega)
       · have HT2 : Aside0 (hdB l0 l0.length ++ (l0.take (n + 1)).flatMap colV = (hdB l0 l0.length ++ (l0.take n).flatMap colV) ++ [x1 % 256]) := ⟨HT.out⟩
         clear HT
         go_wp2_with fail
         go_region_with (first
          | (go_at_call 73; go_must (refine (codecs_call1 _).mono ?_; rintro e w2 ⟨rfl, hb⟩; have hq : ∀ (j : Nat) (v : Value), (#[.int .i64 1, .int .i64 x1, .string x2] : Array Value)[j]? = some v → w2.cell? ⟨wr.heap.size, j, none⟩ = some v := fun j v hv => pw_cell_below hb ((World.cell?_alloc_new wr _ 84 j).trans hv); have hq0 := hq 0 _ rfl; have hq1 := hq 1 _ rfl; have hq2 := hq 2 _ rfl; have HBS2 := Aside0.mk ((HBS.out.alloc _).drew.below hb); clear hb hq))
          | (go_at_call 101; go_must (refine (col1 1 x1 x2 w _ w.heap.size u6 _ HBS2.out (Nat.le_trans HLEN.out (by omega))).mono ?_; rintro e w3 ⟨v3, rfl, hb3⟩; rw [← HT2.out] at hb3; have HB3 := Aside0.mk hb3; clear hb3)))
         all_goals go_wp2
         all_goals go_roundw
         all_goals first | exact ⟨n + 1, by omega, by go_num, HB3⟩ | (simp [intOf]; omega)
       · have HT2 : Aside0 (hdB l0 l0.length ++ (l0.take (n + 1)).flatMap colV = (hdB l0 l0.length ++ (l0.take n).flatMap colV) ++ uv 10 (zz x1)) := ⟨HT.out⟩
         clear HT
         go_wp2_with fail
         go_region_with (first
          | (go_at_call 73; go_must (refine (codecs_call2 _).mono ?_; rintro e w2 ⟨rfl, hb⟩; have hq : ∀ (j : Nat) (v : Value), (#[.int .i64 2, .int .i64 x1, .string x2] : Array Value)[j]? = some v → w2.cell? ⟨wr.heap.size, j, none⟩ = some v := fun j v hv => pw_cell_below hb ((World.cell?_alloc_new wr _ 84 j).trans hv); have hq0 := hq 0 _ rfl; have hq1 := hq 1 _ rfl; have hq2 := hq 2 _ rfl; have HBS2 := Aside0.mk ((HBS.out.alloc _).drew.below hb); clear hb hq))
          | (go_at_call 105; go_must (refine (col2 2 x1 x2 w _ w.heap.size u6 _ HBS2.out (Nat.le_trans HLEN.out (by omega)) HI2.out.1 HI2.out.2).mono ?_; rintro e w3 ⟨v3, rfl, hb3⟩; rw [← HT2.out] at hb3; have HB3 := Aside0.mk hb3; clear hb3)))
         all_goals go_wp2
         all_goals go_roundw
         all_goals first | exact ⟨n + 1, by omega, by go_num, HB3⟩ | (simp [intOf]; omega)
       · have HT2 : Aside0 (hdB l0 l0.length ++ (l0.take (n + 1)).flatMap colV = (hdB l0 l0.length ++ (l0.take n).flatMap colV) ++ (uv 10 (x2.size : Int) ++ bytesOf x2)) := ⟨HT.out⟩
         clear HT
         go_wp2_with fail
         go_region_with (first
          | (go_at_call 73; go_must (refine (codecs_call3 _).mono ?_; rintro e w2 ⟨rfl, hb⟩; have hq : ∀ (j : Nat) (v : Value), (#[.int .i64 3, .int .i64 x1, .string x2] : Array Value)[j]? = some v → w2.cell? ⟨wr.heap.size, j, none⟩ = some v := fun j v hv => pw_cell_below hb ((World.cell?_alloc_new wr _ 84 j).trans hv); have hq0 := hq 0 _ rfl; have hq1 := hq 1 _ rfl; have hq2 := hq 2 _ rfl; have HBS2 := Aside0.mk ((HBS.out.alloc _).drew.below hb); clear hb hq))
          | (go_at_call 110; go_must (refine (col3 3 x1 x2 w _ w.heap.size u6 _ HBS2.out (Nat.le_trans HLEN.out (by omega)) (Nat.le_trans HI4.out (by omega))).mono ?_; rintro e w3 ⟨v3, rfl, hb3⟩; rw [← HT2.out] at hb3; have HB3 := Aside0.mk hb3; clear hb3)))
         all_goals go_wp2
         all_goals go_roundw
         all_goals first | exact ⟨n + 1, by omega, by go_num, HB3⟩ | (simp [intOf]; omega)
     · have d1 : decide ((n : Int) < (l0.length : Int)) = false := decide_eq_false (by omega)
       have d2 : decide (n < l0.length) = false := decide_eq_false hlt
       have e : l0.take n = l0 := List.take_of_length_le (by omega)
       have hcv := own_string (P := Tryd.prog) (src := 66) (dst := 9) Tryd.underlying66 Tryd.underlying5 Tryd.underlying9 HBS.out.1
       rw [e] at hcv
       rw [show hdB l0 l0.length ++ l0.flatMap colV = rowB l0 from rfl, Hr.out] at hcv
       go_wp2
       go_ret2
       exact ⟨rfl, HBS.out.2.1⟩
end Go.Proofs.YtggbhdcgfnjogaaDoor.PPl

