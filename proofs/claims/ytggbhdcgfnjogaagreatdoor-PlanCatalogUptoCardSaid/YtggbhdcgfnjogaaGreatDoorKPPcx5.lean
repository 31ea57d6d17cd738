import Derived.Test.YtggbhdcgfnjogaaGreatDoorKPPcx0
namespace Go.Proofs.YtggbhdcgfnjogaaGreatDoor.PPc
open Go.RowKit Go.Proofs.YtggbhdcgfnjogaaGreatDoorW.PrintWords Go.Proofs.YtggbhdcgfnjogaaGreatDoorW.PrintLast Go.Proofs.YtggbhdcgfnjogaaGreatDoorW.PrintMore
set_option linter.unusedVariables false
set_option linter.unusedSimpArgs false
def uv : Nat → Int → List Int
 | 0, _ => []
 | n + 1, v => if v < 128 then [v] else (v % 128 + 128) :: uv n (v / 128)
def z2.f (a0 : Int) : Option ByteArray := if 0 ≤ a0 ∧ a0 < 18446744073709551616 then some (strOfNums (uv 10 a0)) else none
theorem bits_or_128 (b : Int) (h0 : 0 ≤ b) (h1 : b < 256) : Go.bits .or .u8 b 128 = b % 128 + 128 := by
 have h : ∀ b : Fin 256, Go.bits .or .u8 (b.val : Int) 128 = (b.val : Int) % 128 + 128 := by decide +kernel
 obtain ⟨n, rfl⟩ := Int.eq_ofNat_of_zero_le h0
 exact h ⟨n, by omega⟩
theorem nums_set (k : IntKind) (cs : List Int) (n : Nat) (y : Int) : (nums k cs).toArray.setIfInBounds n (.int k y) = (nums k (cs.set n y)).toArray := by
 simp [nums, List.map_set]
theorem nums_at (k : IntKind) (cs : List Int) (n : Nat) (h : n < cs.length) : (nums k cs).toArray[n]? = some (.int k cs[n]) := by
 simp [nums, h]
def pow7 (n : Nat) : Int := 18446744073709551616 / 2 ^ (7 * n)
theorem pow7_step {n : Nat} {x : Int} (hn : n ≤ 9) (h0 : 128 ≤ x) (h : x < pow7 n) : n ≤ 8 ∧ x / 128 < pow7 (n + 1) := by
 have : n = 0 ∨ n = 1 ∨ n = 2 ∨ n = 3 ∨ n = 4 ∨ n = 5 ∨ n = 6 ∨ n = 7 ∨ n = 8 ∨ n = 9 := by omega
 rcases this with rfl | rfl | rfl | rfl | rfl | rfl | rfl | rfl | rfl | rfl <;> simp [pow7] at * <;> omega
set_option maxHeartbeats 4000000 in
set_option maxRecDepth 100000 in
theorem z2.calls (a0 : Int) (r : ByteArray) (w : World) (h : z2.f a0 = some r) :
 Calls Tryz.prog 25 #[.int .u64 a0] w fun e w' => e = .returned (.string r) ∧ Below w.heap.size w w' := by
 unfold z2.f at h
 by_cases hl : 0 ≤ a0 ∧ a0 < 18446744073709551616
 case neg => rw [if_neg hl] at h; exact absurd h (by simp)
 rw [if_pos hl] at h;have Hr := Aside0.mk (Option.some.inj h);clear h;have HP : Aside0 (a0 < pow7 0) := ⟨by unfold pow7; simpa using hl.2⟩;have hp0 : 0 ≤ a0 := hl.1;clear hl;have HB := Aside0.mk (Below.refl w.heap.size w)
 go_enter Tryz.func25, Tryz.ntmps25
 go_wp2
 go_loopw [0, 4] (fun v0 v4 wr => ∃ (n : Nat) (x : Int) (cs : List Int), n ≤ 9 ∧ 0 ≤ x ∧ v0 = .int .u64 x ∧ v4 = .int .i64 (n : Int) ∧ Aside0 (x < pow7 n) ∧ Aside0 (cs.length = 10) ∧ Aside0 (wr.heap[w.heap.size]? = some (.cells (nums .u8 cs).toArray 95 (0, 0))) ∧ Aside0 (cs.take n ++ uv (10 - n) x = uv 10 a0) ∧ Aside0 (Below w.heap.size w wr)) (fun _ v4 _ => 10 - (intOf v4).toNat)
 case atStart => exact ⟨0, a0, List.replicate 10 0, by omega, hp0, rfl, rfl, HP, ⟨rfl⟩, ⟨heap_alloc_new w _⟩, ⟨by simp⟩, ⟨qa HB.out _⟩⟩
 case round =>
  clear HB HP hp0;obtain ⟨n, x, cs, hn, hx, rfl, rfl, HP, HL, HH, HU, HB⟩ := hrel;have hc0 := qe HH.out n;rw [nums_at .u8 cs n (by rw [HL.out]; omega)] at hc0;have hf0 := q9 HH.out n
  by_cases hge : 128 ≤ x
  · have d1 : decide (128 ≤ x) = true := decide_eq_true hge
    obtain ⟨hn8, hq⟩ := pow7_step hn hge HP.out;have HQ := Aside0.mk hq
    have HE : Aside0 ((cs.set n (x % 128 + 128)).take (n + 1) ++ uv (10 - (n + 1)) (x / 128) = uv 10 a0) := by
     constructor
     rw [← HU.out, List.take_succ_eq_append_getElem (by simp [HL.out]; omega)];obtain ⟨m, hm⟩ : ∃ m, 10 - n = m + 1 := ⟨9 - n, by omega⟩;rw [hm, show 10 - (n + 1) = m by omega];simp only [uv, if_neg (show ¬ x < 128 by omega), List.getElem_set_self, List.take_set_of_le (Nat.le_refl n), List.append_assoc, List.singleton_append]
    have hor := bits_or_128 (x % 256) (by omega) (by omega);rw [show x % 256 % 128 = x % 128 by omega] at hor;clear hq;go_wp2;have HH2 := Aside0.mk (qu HH.out n (.int .u8 (x % 128 + 128)) (nums_set .u8 cs n (x % 128 + 128)))
    go_roundw
    case rel => exact ⟨n + 1, x / 128, cs.set n (x % 128 + 128), by omega, by omega, rfl, by go_num, HQ, ⟨by simp [HL.out]⟩, HH2, HE, ⟨qf HB.out (Nat.le_refl _)⟩⟩
    case measure => simp [intOf]; omega
  · have d1 : decide (128 ≤ x) = false := decide_eq_false hge
    have HE : Aside0 ((cs.set n x).take (n + 1) = uv 10 a0) := by
     constructor
     rw [← HU.out, List.take_succ_eq_append_getElem (by simp [HL.out]; omega)];obtain ⟨m, hm⟩ : ∃ m, 10 - n = m + 1 := ⟨9 - n, by omega⟩;rw [hm];simp only [uv, if_pos (show x < 128 by omega), List.getElem_set_self, List.take_set_of_le (Nat.le_refl n)]
    have hxm : x % 256 = x := by omega
    have HH2 := Aside0.mk (qu HH.out n (.int .u8 x) (nums_set .u8 cs n x))
    have hown : (wr.setCell ⟨w.heap.size, n, none⟩ (.int .u8 x)).ownsRow w.heap.size 95 1 (.slice (some ⟨w.heap.size, 0, none⟩) (n + 1) 10) (n + 1) (nums .u8 ((cs.set n x).take (n + 1))) := by
     refine ⟨by simp [nums, HL.out]; omega, .inr ⟨w.heap.size, 10, _, rfl, Nat.le_refl _, HH2.out, by omega, by simp [maxLen], by simp [nums, HL.out], by simp [nums, List.map_take]⟩⟩
    have hcv := zA (P := Tryz.prog) (src := 76) (dst := 9) Tryz.underlying76 Tryz.underlying5 Tryz.underlying9 hown;rw [HE.out, Hr.out] at hcv
    have hsl : ∀ W : World, (Instr.sliceAt 95 (.pointer (some ⟨w.heap.size, 0, none⟩)) none (some (.int .i64 ((n : Int) + 1))) none).run Tryz.prog W = .ok (.slice (some ⟨w.heap.size, 0, none⟩) (n + 1) 10) W := by
     intro W
     have hal : Tryz.prog.arrayLen 95 = 10 := by kernel_rfl
     have h10 : ((n : Int) + 1).toNat = n + 1 := by omega
     rw [run_sliceAt_array_h (P := Tryz.prog) W 95 ⟨w.heap.size, 0, none⟩ (by kernel_rfl) .i64 ((n : Int) + 1) (by omega) (by rw [hal]; omega), hal, h10]
     have hsz : (sizeOf (Tryz.prog.elem 95)).run Tryz.prog W = .ok 1 W := by kernel_rfl
     rw [hsz]
     simp [slicedAt, Result.andThen, Addr.add]
    clear hown HE HH2;go_wp2
    go_ret
    exact ⟨rfl, qf HB.out (Nat.le_refl _)⟩
def xu.f (a0 : ByteArray) : Option (ByteArray × Int) := if a0.size ≤ 1000000000 then (if a0.size > 1048576 then some (⟨#[]⟩, 4) else some (strOfNums (uv 10 (a0.size : Int)) ++ a0, 0)) else none
theorem xu.calls (a0 : ByteArray) (r1 : ByteArray) (r2 : Int) (w : World) (h : xu.f a0 = some (r1, r2)) :
 Calls Tryz.prog 26 #[.string a0] w fun e w' => e = .returned (.tuple #[.string r1, .int .i64 r2]) ∧ Below w.heap.size w w' := by
 unfold xu.f at h
 by_cases hs : a0.size ≤ 1000000000
 case neg => rw [if_neg hs] at h; exact absurd h (by simp)
 rw [if_pos hs] at h;have HB := Aside0.mk (Below.refl w.heap.size w)
 by_cases hl : a0.size > 1048576
 · rw [if_pos hl] at h
   simp only [Option.some.injEq, Prod.mk.injEq] at h;obtain ⟨rfl, rfl⟩ := h;have d1 : decide (1048576 < (a0.size : Int)) = true := decide_eq_true (by omega);have d2 : decide (1048576 < a0.size) = true := decide_eq_true hl
   go_enter Tryz.func26, Tryz.ntmps26
   go_wp2
   go_ret2
   exact ⟨rfl, HB.out⟩
 · rw [if_neg hl] at h
   simp only [Option.some.injEq, Prod.mk.injEq] at h;obtain ⟨hr, rfl⟩ := h;obtain ⟨Y, hY⟩ : ∃ Y, strOfNums (uv 10 (a0.size : Int)) = Y := ⟨_, rfl⟩;rw [hY] at hr
   have hYs : Y.size ≤ 10 := by
    have hlen : ∀ n x, (uv n x).length ≤ n := by
     intro n
     induction n with
     | zero => intro x; simp [uv]
     | succ n ih =>
      intro x;unfold uv
      split
      · simp
      · have := ih (x / 128); simp; omega
    rw [← hY, strOfNums_size]
    exact hlen 10 _
   have HU : Aside0 (z2.f (a0.size : Int) = some Y) := ⟨by rw [← hY]; unfold z2.f; rw [if_pos ⟨by omega, by omega⟩]⟩;have d1 : decide (1048576 < (a0.size : Int)) = false := decide_eq_false (by omega);have d2 : decide (1048576 < a0.size) = false := decide_eq_false hl
   have eU : IntKind.u64.wrap (a0.size : Int) = (a0.size : Int) := by simp [IntKind.wrap, IntKind.signed, IntKind.bits]; omega
   have c : Y.size + a0.size ≤ 9223372036854775807 := by omega
   have c0 := eq_true c;have c1 : decide (Y.size + a0.size ≤ 9223372036854775807) = true := decide_eq_true c;have c2 : (9223372036854775807 < Y.size + a0.size) = False := eq_false (Nat.not_lt.2 c);clear c hYs hY;subst hr
   go_enter Tryz.func26, Tryz.ntmps26
   go_wp2_with (first | (go_at_call 25; go_must (refine (z2.calls (a0.size : Int) _ _ HU.out).mono ?_; rintro e w1 ⟨rfl, hb⟩)))
   go_ret2
   exact ⟨rfl, hb⟩
def xg (k : Int) : Int := if k = 0 then 1 else if k = 1 then 2 else if k = 2 then 0 else 1
def zU (k i : Int) (t : ByteArray) : Bool := (decide (xg k = 0) || decide (IntKind.u64.wrap i < xg k)) && (decide (k = 3) || t.toList.isEmpty)
def xt.f (k i : Int) (t : ByteArray) : Option Bool := if 0 ≤ k ∧ k < 4 then some (zU k i t) else none
set_option maxHeartbeats 2000000 in
theorem xt.calls (k i : Int) (t : ByteArray) (r : Bool) (w : World) (h : xt.f k i t = some r) (hG : GL w) :
 Calls Tryz.prog 58 #[.agg #[.int .i64 k, .int .i64 i, .string t]] w fun e w' => e = .returned (.bool r) ∧ Below w.heap.size w w' := by
 unfold xt.f at h
 by_cases hk : 0 ≤ k ∧ k < 4
 case neg => rw [if_neg hk] at h; exact absurd h (by simp)
 rw [if_pos hk] at h;obtain rfl := Option.some.inj h;clear h;have HB := Aside0.mk (Below.refl w.heap.size w);have hlt : 0 < w.heap.size := World.block_lt_of_cell? w ⟨0, 0, none⟩ (hG.shape 0 _ rfl)
 have hk4 : k = 0 ∨ k = 1 ∨ k = 2 ∨ k = 3 := by omega
 rcases hk4 with rfl | rfl | rfl | rfl
 · have s0 := hG.shape 0 _ rfl
   have s1 := hG.shape 1 _ rfl;clear hG hk
   go_enter Tryz.func58, Tryz.ntmps58
   go_wp2
   all_goals go_ret
   all_goals exact ⟨by first | (simp_all [zU, xg]; done) | (simp_all [zU, xg]; omega), qa (qa HB.out _) _⟩
 · have s0 := hG.shape 2 _ rfl
   have s1 := hG.shape 3 _ rfl;clear hG hk
   go_enter Tryz.func58, Tryz.ntmps58
   go_wp2
   all_goals go_ret
   all_goals exact ⟨by first | (simp_all [zU, xg]; done) | (simp_all [zU, xg]; omega), qa (qa HB.out _) _⟩
 · have s0 := hG.shape 4 _ rfl
   have s1 := hG.shape 5 _ rfl;clear hG hk
   go_enter Tryz.func58, Tryz.ntmps58
   go_wp2
   all_goals go_ret
   all_goals exact ⟨by first | (simp_all [zU, xg]; done) | (simp_all [zU, xg]; omega), qa (qa HB.out _) _⟩
 · have s0 := hG.shape 6 _ rfl
   have s1 := hG.shape 7 _ rfl;clear hG hk
   go_enter Tryz.func58, Tryz.ntmps58
   go_wp2
   all_goals go_ret
   all_goals exact ⟨by first | (simp_all [zU, xg]; done) | (simp_all [zU, xg]; omega), qa (qa HB.out _) _⟩
mutual
def qW.l0 : Nat → List (S42) → Int → Int → Option (Int)
 | 0, _, _, _ => none
 | k + 1, x8, x9, x10 => if x10 < x9 then (if 0 ≤ x10 then (if x10 < (x8.length : Int) then (if ((qJ x8 x10).f0) < 0 then (qW.j1 k x8 x9 x10 true ((qJ x8 x10).f0) ((qJ x8 x10).f1) ((qJ x8 x10).f2)) else (if ((qJ x8 x10).f0) ≥ 4 then (qW.j1 k x8 x9 x10 true ((qJ x8 x10).f0) ((qJ x8 x10).f1) ((qJ x8 x10).f2)) else ((xt.f ((qJ x8 x10).f0) ((qJ x8 x10).f1) ((qJ x8 x10).f2)).bind fun t116 => (qW.j1 k x8 x9 x10 (!t116) ((qJ x8 x10).f0) ((qJ x8 x10).f1) ((qJ x8 x10).f2))))) else (none)) else (none)) else (some 0)
def qW.j1 : Nat → List (S42) → Int → Int → Bool → Int → Int → ByteArray → Option (Int)
 | 0, _, _, _, _, _, _, _ => none
 | k + 1, x8, x9, x10, x26, x116000, x116001, x116002 => if x26 = true then (some 19) else (if (x116002.size : Int) > 4096 then (some 4) else (qW.l0 k x8 x9 (wrap64 (x10 + 1))))
end
def qW.f (k : Nat) (l0 : List (S42)) : Option (Int) := if (l0.length : Int) > 16 then (some 18) else (qW.l0 k l0 (l0.length : Int) 0)
set_option maxHeartbeats 8000000 in
set_option maxRecDepth 100000 in
theorem qW.calls (k : Nat) (A0 : Option Addr) (c0 : Nat) (l0 : List (S42)) (r : Int) (w : World) (hr0 : Kd.C k42 w A0 l0.length l0) (hc0 : l0.length ≤ c0) (h : qW.f k l0 = some r) (hG : GL w) :
 Calls Tryz.prog 54 #[.slice A0 l0.length c0] w fun e w' => e = .returned (.int .i64 r) ∧ Below w.heap.size w w' := by
 have hu42 := Tryz.underlying42;have HR0 := Aside0.mk hr0;have HC0 := Aside0.mk hc0;clear hr0 hc0;have HB := Aside0.mk (Below.refl w.heap.size w);have H : (if (l0.length : Int) > 16 then (some 18) else (qW.l0 k l0 (l0.length : Int) 0)) = some r := h;clear h
 by_cases c2 : (l0.length : Int) > 16
 · rw [if_pos c2] at H
   have c2b0 : decide (16 < (l0.length : Int)) = true := decide_eq_true c2;have c2b1 : decide (16 < l0.length) = true := decide_eq_true (by omega);clear c2;obtain rfl := Option.some.inj H
   go_enter Tryz.func54, Tryz.ntmps54
   go_wp2
   go_ret
   exact ⟨by first | rfl | (simp [qm, qn] <;> rfl) | (simp [*, qm, qn] <;> rfl), by repeat (first | (with_reducible first | exact HB.out | apply qa | apply q8 | apply qd) | exact HB.out)⟩
 · rw [if_neg c2] at H
   have c2b0 : decide (16 < (l0.length : Int)) = false := decide_eq_false c2;have c2b1 : decide (16 < l0.length) = false := decide_eq_false (by omega);clear c2;have H' := Aside0.mk H;clear H
   go_enter Tryz.func54, Tryz.ntmps54
   go_wp2
   go_loopg [10] k (fun kq v10 w' => ∃ (x10_1 : Int), v10 = .int .i64 x10_1 ∧ Aside0 (qW.l0 kq l0 (l0.length : Int) x10_1 = some r) ∧ Aside0 (kq ≤ k) ∧ Aside0 (Below w.heap.size w w'))
   case atStart => exact ⟨(0), (by first | rfl | (simp; done) | (simp [*]; done)), H', ⟨Nat.le_refl _⟩, ⟨by repeat (first | (with_reducible first | exact HB.out | apply qa | apply q8 | apply qd) | exact HB.out)⟩⟩
   case round =>
    clear H'
    (try clear c2); (try clear c2b0); (try clear c2b1); (try clear p2)
    obtain ⟨x10_1, rfl, HA, HK1, HB⟩ := hrel
    cases gk with
    | zero => exact absurd HA.out (by simp [qW.l0])
    | succ k1 =>
     have H := HA.out;clear HA;simp only [qW.l0] at H
     by_cases c3 : x10_1 < (l0.length : Int)
     · rw [if_pos c3] at H
       have c3b0 : decide (x10_1 < (l0.length : Int)) = true := decide_eq_true c3;clear c3
       by_cases c4 : 0 ≤ x10_1
       · rw [if_pos c4] at H
         have c4b0 : decide (0 ≤ x10_1) = true := decide_eq_true c4;clear c4
         by_cases c5 : x10_1 < (l0.length : Int)
         · rw [if_pos c5] at H
           have c5b0 : decide (x10_1 < (l0.length : Int)) = true := decide_eq_true c5;clear c5;have HC6 := Aside0.mk H;clear H;have p114 : 0 ≤ (x10_1 : Int) := of_decide_eq_true (by first | (with_reducible assumption) | assumption);have q114 : x10_1 < (l0.length : Int) := of_decide_eq_true (by first | (with_reducible assumption) | assumption);obtain ⟨ad114, e114, hx114_0, hx114_1, hx114_2⟩ := vj HR0.out x10_1 p114 q114;cases e114;replace hx114_0 := (HB.out.cell (World.block_lt_of_cell? w _ hx114_0)).trans hx114_0;replace hx114_1 := (HB.out.cell (World.block_lt_of_cell? w _ hx114_1)).trans hx114_1;replace hx114_2 := (HB.out.cell (World.block_lt_of_cell? w _ hx114_2)).trans hx114_2;replace p114 := eq_true p114;replace q114 := eq_true q114
           go_upto_region 6 with (first | ((with_reducible refine qG (N := 4) rfl ?_); refine qF ?hg (N := 4) ?hd (cs := #[.int .i64 0, .int .i64 0, .string (⟨#[]⟩ : ByteArray)]) (t := 42) ?hr ?_; (case hd => rfl); (case hg => rfl); (case hr => first | (go_simp; done) | (go_simp; rfl)); intro gb115 hg w7 hbox hb; have BK115 := Aside0.mk (hbox); have GW115 := Aside0.mk ((by rw [hg]; exact (qj (by repeat (first | (with_reducible first | exact HB.out | apply qa | apply q8 | apply qd) | exact HB.out))) : w.heap.size ≤ gb115)); have GE115 := Aside0.mk ((by rw [hg]; exact (qj (by repeat (first | (with_reducible first | exact HB.out | apply qa | apply q8 | apply qd) | exact HB.out))) : w.heap.size ≤ gb115)); replace HB := Aside0.mk (qt (by repeat (first | (with_reducible first | exact HB.out | apply qa | apply q8 | apply qd) | exact HB.out)) hb); clear hb hbox hg; have hcz8_0 : w7.cell? ⟨gb115, 0, none⟩ = some (.int .i64 0) := (qe BK115.out 0).trans rfl; have hcz8_1 : w7.cell? ⟨gb115, 1, none⟩ = some (.int .i64 0) := (qe BK115.out 1).trans rfl; have hcz8_2 : w7.cell? ⟨gb115, 2, none⟩ = some (.string (⟨#[]⟩ : ByteArray)) := (qe BK115.out 2).trans rfl; have hfz8_0 := q9 BK115.out 0; have hfz8_1 := q9 BK115.out 1; have hfz8_2 := q9 BK115.out 2))
           (try simp only [Act.put, List.setIfInBounds_toArray, List.set_cons_zero, List.set_cons_succ])
           go_cut [26] (fun v26 wc => ∃ (kq : Nat) (x26_5 : Bool), v26 = .bool x26_5 ∧ Aside0 (qW.j1 kq l0 (l0.length : Int) x10_1 x26_5 ((qJ l0 x10_1).f0) ((qJ l0 x10_1).f1) ((qJ l0 x10_1).f2) = some r) ∧ Aside0 (kq ≤ k1) ∧ Aside0 (wc.heap[gb115]? = some (.cells #[.int .i64 ((qJ l0 x10_1).f0), .int .i64 ((qJ l0 x10_1).f1), .string ((qJ l0 x10_1).f2)] 42 (0, 0))) ∧ Aside0 (Below w.heap.size w wc))
           case first =>
            have H := HC6.out;clear HC6
            by_cases c9 : ((qJ l0 x10_1).f0) < 0
            · rw [if_pos c9] at H
              have c9b0 : decide (((qJ l0 x10_1).f0) < 0) = true := decide_eq_true c9;clear c9
              (first | rw [c9b0] | (simp only [qS, qV]; rw [c9b0]) | skip)
              have H' := Aside0.mk H;clear H;have hcz10_0 : w7.cell? ⟨gb115, 0, none⟩ = some (.int .i64 0) := (qe BK115.out 0).trans rfl;have hcz10_1 : w7.cell? ⟨gb115, 1, none⟩ = some (.int .i64 0) := (qe BK115.out 1).trans rfl;have hcz10_2 : w7.cell? ⟨gb115, 2, none⟩ = some (.string (⟨#[]⟩ : ByteArray)) := (qe BK115.out 2).trans rfl;have hfz10_0 := q9 BK115.out 0;have hfz10_1 := q9 BK115.out 1;have hfz10_2 := q9 BK115.out 2;go_wp2;go_meet
              case rel => exact ⟨_, (true), (by first | rfl | (simp; done) | (simp [*]; done)), H', ⟨by have := HK1.out; first | omega | exact Nat.le_refl _⟩, ⟨by (with_reducible repeat (first | refine qc ?_ _ | refine qg ?_ | refine qb ?_ _)); refine qu (cs := #[.int .i64 ((qJ l0 x10_1).f0), .int .i64 ((qJ l0 x10_1).f1), .string (⟨#[]⟩ : ByteArray)]) ?_ 2 _ rfl; (with_reducible repeat (first | refine qc ?_ _ | refine qg ?_ | refine qb ?_ _)); refine qu (cs := #[.int .i64 ((qJ l0 x10_1).f0), .int .i64 0, .string (⟨#[]⟩ : ByteArray)]) ?_ 1 _ rfl; (with_reducible repeat (first | refine qc ?_ _ | refine qg ?_ | refine qb ?_ _)); refine qu (cs := #[.int .i64 0, .int .i64 0, .string (⟨#[]⟩ : ByteArray)]) ?_ 0 _ rfl; (with_reducible repeat (first | refine qc ?_ _ | refine qg ?_ | refine qb ?_ _)); exact BK115.out⟩, ⟨by repeat (first | (with_reducible first | exact HB.out | apply qa | apply q8 | apply qd | refine qf ?_ GE115.out) | exact HB.out)⟩⟩
            · rw [if_neg c9] at H
              have c9b0 : decide (((qJ l0 x10_1).f0) < 0) = false := decide_eq_false c9;clear c9
              (first | rw [c9b0] | (simp only [qS, qV]; rw [c9b0]) | skip)
              by_cases c11 : ((qJ l0 x10_1).f0) ≥ 4
              · rw [if_pos c11] at H
                have c11b0 : decide (4 ≤ ((qJ l0 x10_1).f0)) = true := decide_eq_true c11;clear c11;have H' := Aside0.mk H;clear H;have hcz12_0 : w7.cell? ⟨gb115, 0, none⟩ = some (.int .i64 0) := (qe BK115.out 0).trans rfl;have hcz12_1 : w7.cell? ⟨gb115, 1, none⟩ = some (.int .i64 0) := (qe BK115.out 1).trans rfl;have hcz12_2 : w7.cell? ⟨gb115, 2, none⟩ = some (.string (⟨#[]⟩ : ByteArray)) := (qe BK115.out 2).trans rfl;have hfz12_0 := q9 BK115.out 0;have hfz12_1 := q9 BK115.out 1;have hfz12_2 := q9 BK115.out 2;go_wp2;go_meet
                case rel => exact ⟨_, (true), (by first | rfl | (simp; done) | (simp [*]; done)), H', ⟨by have := HK1.out; first | omega | exact Nat.le_refl _⟩, ⟨by (with_reducible repeat (first | refine qc ?_ _ | refine qg ?_ | refine qb ?_ _)); refine qu (cs := #[.int .i64 ((qJ l0 x10_1).f0), .int .i64 ((qJ l0 x10_1).f1), .string (⟨#[]⟩ : ByteArray)]) ?_ 2 _ rfl; (with_reducible repeat (first | refine qc ?_ _ | refine qg ?_ | refine qb ?_ _)); refine qu (cs := #[.int .i64 ((qJ l0 x10_1).f0), .int .i64 0, .string (⟨#[]⟩ : ByteArray)]) ?_ 1 _ rfl; (with_reducible repeat (first | refine qc ?_ _ | refine qg ?_ | refine qb ?_ _)); refine qu (cs := #[.int .i64 0, .int .i64 0, .string (⟨#[]⟩ : ByteArray)]) ?_ 0 _ rfl; (with_reducible repeat (first | refine qc ?_ _ | refine qg ?_ | refine qb ?_ _)); exact BK115.out⟩, ⟨by repeat (first | (with_reducible first | exact HB.out | apply qa | apply q8 | apply qd | refine qf ?_ GE115.out) | exact HB.out)⟩⟩
              · rw [if_neg c11] at H
                have c11b0 : decide (4 ≤ ((qJ l0 x10_1).f0)) = false := decide_eq_false c11;clear c11;replace H := Option.bind_eq_some_iff.mp H;obtain ⟨t116, A130, H⟩ := H;replace H : (qW.j1 k1 l0 (l0.length : Int) x10_1 (!t116) ((qJ l0 x10_1).f0) ((qJ l0 x10_1).f1) ((qJ l0 x10_1).f2)) = some r := H;have A13 := Aside0.mk A130;clear A130;have H' := Aside0.mk H;clear H;have hcz14_0 : w7.cell? ⟨gb115, 0, none⟩ = some (.int .i64 0) := (qe BK115.out 0).trans rfl;have hcz14_1 : w7.cell? ⟨gb115, 1, none⟩ = some (.int .i64 0) := (qe BK115.out 1).trans rfl;have hcz14_2 : w7.cell? ⟨gb115, 2, none⟩ = some (.string (⟨#[]⟩ : ByteArray)) := (qe BK115.out 2).trans rfl;have hfz14_0 := q9 BK115.out 0;have hfz14_1 := q9 BK115.out 1;have hfz14_2 := q9 BK115.out 2
                go_wp2_with (first | (go_at_call 58; (with_reducible refine (xt.calls ((qJ l0 x10_1).f0) ((qJ l0 x10_1).f1) ((qJ l0 x10_1).f2) t116 _ A13.out (hG.below (by repeat (first | (with_reducible first | exact HB.out | apply qa | apply q8 | apply qd | refine qf ?_ (Aside0.out (by assumption))) | exact HB.out)))).mono ?_); rintro e w15 ⟨rfl, hb⟩; replace BK115 := Aside0.mk (qp (g := gb115) (o := .cells #[.int .i64 ((qJ l0 x10_1).f0), .int .i64 ((qJ l0 x10_1).f1), .string ((qJ l0 x10_1).f2)] 42 (0, 0)) (by (with_reducible repeat (first | refine qc ?_ _ | refine qg ?_ | refine qb ?_ _)); refine qu (cs := #[.int .i64 ((qJ l0 x10_1).f0), .int .i64 ((qJ l0 x10_1).f1), .string (⟨#[]⟩ : ByteArray)]) ?_ 2 _ rfl; (with_reducible repeat (first | refine qc ?_ _ | refine qg ?_ | refine qb ?_ _)); refine qu (cs := #[.int .i64 ((qJ l0 x10_1).f0), .int .i64 0, .string (⟨#[]⟩ : ByteArray)]) ?_ 1 _ rfl; (with_reducible repeat (first | refine qc ?_ _ | refine qg ?_ | refine qb ?_ _)); refine qu (cs := #[.int .i64 0, .int .i64 0, .string (⟨#[]⟩ : ByteArray)]) ?_ 0 _ rfl; (with_reducible repeat (first | refine qc ?_ _ | refine qg ?_ | refine qb ?_ _)); exact BK115.out) hb); replace HB := Aside0.mk (qt (by repeat (first | (with_reducible first | exact HB.out | apply qa | apply q8 | apply qd | refine qf ?_ GE115.out) | exact HB.out)) hb); (try clear hb); (try clear hb2); (try clear hk); (try clear hi)))
                go_meet
                case rel => exact ⟨_, (!t116), (by first | rfl | (simp; done) | (simp [*]; done)), H', ⟨by have := HK1.out; first | omega | exact Nat.le_refl _⟩, ⟨by (with_reducible repeat (first | refine qc ?_ _ | refine qg ?_ | refine qb ?_ _)); exact BK115.out⟩, ⟨by repeat (first | (with_reducible first | exact HB.out | apply qa | apply q8 | apply qd | refine qf ?_ GE115.out) | exact HB.out)⟩⟩
           case rest =>
            clear HC6
            (try clear c1); (try clear p1); (try clear q1); (try clear hx1); (try clear c2); (try clear c2b0); (try clear c2b1); (try clear p2); (try clear c3); (try clear c3b0); (try clear c4); (try clear c4b0); (try clear c5); (try clear c5b0); (try clear c9); (try clear c9b0); (try clear c11); (try clear c11b0); (try clear p11); (try clear q11); (try clear hx11); (try clear hcz10_0); (try clear hcz10_1); (try clear hcz10_2); (try clear hcz12_0); (try clear hcz12_1); (try clear hcz12_2); (try clear hcz14_0); (try clear hcz14_1); (try clear hcz14_2); (try clear hcz8_0); (try clear hcz8_1); (try clear hcz8_2); (try clear hfz10_0); (try clear hfz10_1); (try clear hfz10_2); (try clear hfz12_0); (try clear hfz12_1); (try clear hfz12_2); (try clear hfz14_0); (try clear hfz14_1); (try clear hfz14_2); (try clear hfz8_0); (try clear hfz8_1); (try clear hfz8_2); (try clear hx114_0); (try clear hx114_1); (try clear hx114_2); (try clear p114); (try clear p2); (try clear q114)
            obtain ⟨kq, x26_5, rfl, HA, HJ5, BK115, HB⟩ := hcut
            cases kq with
            | zero => exact absurd HA.out (by simp [qW.j1])
            | succ kj5 =>
             have H := HA.out;clear HA;simp only [qW.j1] at H
             by_cases c16 : x26_5 = true
             · subst c16
               have H1 : (some 19) = some r := by rw [if_pos rfl] at H; exact H
               clear H;have H := H1;clear H1;obtain rfl := Option.some.inj H;go_wp2
               go_ret
               exact ⟨by first | rfl | (simp [qm, qn] <;> rfl) | (simp [*, qm, qn] <;> rfl), by repeat (first | (with_reducible first | exact HB.out | apply qa | apply q8 | apply qd | refine qf ?_ GE115.out) | exact HB.out)⟩
             · replace c16 := Bool.eq_false_iff.mpr c16
               subst c16
               have H1 : (if (((qJ l0 x10_1).f2).size : Int) > 4096 then (some 4) else (qW.l0 kj5 l0 (l0.length : Int) (wrap64 (x10_1 + 1)))) = some r := by rw [if_neg (show ¬ (false = true) by decide)] at H; exact H
               clear H;have H := H1;clear H1
               by_cases c17 : (((qJ l0 x10_1).f2).size : Int) > 4096
               · rw [if_pos c17] at H
                 have c17b0 : decide (4096 < (((qJ l0 x10_1).f2).size : Int)) = true := decide_eq_true c17;have c17b1 : decide (4096 < ((qJ l0 x10_1).f2).size) = true := decide_eq_true (by omega);clear c17;obtain rfl := Option.some.inj H;have hcz18_0 : wc.cell? ⟨gb115, 0, none⟩ = some (.int .i64 ((qJ l0 x10_1).f0)) := (qe BK115.out 0).trans rfl;have hcz18_1 : wc.cell? ⟨gb115, 1, none⟩ = some (.int .i64 ((qJ l0 x10_1).f1)) := (qe BK115.out 1).trans rfl;have hcz18_2 : wc.cell? ⟨gb115, 2, none⟩ = some (.string ((qJ l0 x10_1).f2)) := (qe BK115.out 2).trans rfl;have hfz18_0 := q9 BK115.out 0;have hfz18_1 := q9 BK115.out 1;have hfz18_2 := q9 BK115.out 2;go_wp2
                 go_ret
                 exact ⟨by first | rfl | (simp [qm, qn] <;> rfl) | (simp [*, qm, qn] <;> rfl), by repeat (first | (with_reducible first | exact HB.out | apply qa | apply q8 | apply qd | refine qf ?_ GE115.out) | exact HB.out)⟩
               · rw [if_neg c17] at H
                 have c17b0 : decide (4096 < (((qJ l0 x10_1).f2).size : Int)) = false := decide_eq_false c17;have c17b1 : decide (4096 < ((qJ l0 x10_1).f2).size) = false := decide_eq_false (by omega);clear c17;have H' := Aside0.mk H;clear H;have hcz19_0 : wc.cell? ⟨gb115, 0, none⟩ = some (.int .i64 ((qJ l0 x10_1).f0)) := (qe BK115.out 0).trans rfl;have hcz19_1 : wc.cell? ⟨gb115, 1, none⟩ = some (.int .i64 ((qJ l0 x10_1).f1)) := (qe BK115.out 1).trans rfl;have hcz19_2 : wc.cell? ⟨gb115, 2, none⟩ = some (.string ((qJ l0 x10_1).f2)) := (qe BK115.out 2).trans rfl;have hfz19_0 := q9 BK115.out 0;have hfz19_1 := q9 BK115.out 1;have hfz19_2 := q9 BK115.out 2;go_wp2
                 go_roundg kj5
                 case measure => have := HK1.out; have := HJ5.out; omega
                 case rel => exact ⟨(wrap64 (x10_1 + 1)), (by first | rfl | (simp; done) | (simp [*]; done)), H', ⟨by have := HK1.out; have := HJ5.out; omega⟩, ⟨by repeat (first | (with_reducible first | exact HB.out | apply qa | apply q8 | apply qd | refine qf ?_ GE115.out) | exact HB.out)⟩⟩
         · rw [if_neg c5] at H
           exact absurd H (by simp)
       · rw [if_neg c4] at H
         exact absurd H (by simp)
     · rw [if_neg c3] at H
       have c3b0 : decide (x10_1 < (l0.length : Int)) = false := decide_eq_false c3;clear c3;obtain rfl := Option.some.inj H;go_wp2
       go_ret
       exact ⟨by first | rfl | (simp [qm, qn] <;> rfl) | (simp [*, qm, qn] <;> rfl), by repeat (first | (with_reducible first | exact HB.out | apply qa | apply q8 | apply qd) | exact HB.out)⟩
def rems (u : Int) : Nat → List Int
 | 0 => []
 | n + 1 => (u / 2 ^ (8 * n) % 256) :: rems u n
def zj (i : Int) : Nat := (Lib.bitLen (if 0 ≤ i then i else -1 - i).toNat + 7) / 8
def zL (i : Int) : List Int := (if 0 ≤ i then 56 + (zj i : Int) else 55 - (zj i : Int)) :: rems (IntKind.u64.wrap i) (zj i)
def xv (t : ByteArray) : List Int := [80] ++ zh ⟨(Lib.replaceAll t.data.toList [0] [0, 255]).toArray⟩ ++ [0, 1]
def layB (k i : Int) (t : ByteArray) : List Int := if k = 0 then [16] else if k = 1 then [Go.bits .or .u8 32 (i % 256)] else if k = 2 then zL i else xv t
set_option maxHeartbeats 2000000 in
theorem lay0 (k i : Int) (t : ByteArray) (w0 W : World) (base : Nat) (v : Value) (xs : List Int) (HB : Bs w0 W base v xs) (hl : xs.length ≤ 1000000) :
 Calls Tryz.prog 59 #[v, .agg #[.int .i64 k, .int .i64 i, .string t]] W fun e w' => ∃ v1, e = .returned v1 ∧ Bs w0 w' base v1 (xs ++ [16]) := by
 have HB := Aside0.mk HB
 go_enter Tryz.func59, Tryz.ntmps59
 go_wp2_with (first | ((with_reducible refine qQ (b := .append) (xs := #[.tmp 5, .tmp 6]) rfl ?_); at_builtin; refine Bs.one (w0 := w0) (base := base) rfl (.tmp 5) (.tmp 6) 76 rfl Tryz.underlying76 zV v xs 16 rfl _ (World.size_alloc _ _).symm rfl (HB.out.alloc _) (by omega) ?_; intro v1 w1 h1 _; have H1 := Aside0.mk h1; clear h1))
 go_ret
 exact ⟨_, rfl, H1.out⟩
set_option maxHeartbeats 2000000 in
theorem lay1 (k i : Int) (t : ByteArray) (w0 W : World) (base : Nat) (v : Value) (xs : List Int) (HB : Bs w0 W base v xs) (hl : xs.length ≤ 1000000) :
 Calls Tryz.prog 62 #[v, .agg #[.int .i64 k, .int .i64 i, .string t]] W fun e w' => ∃ v1, e = .returned v1 ∧ Bs w0 w' base v1 (xs ++ [Go.bits .or .u8 32 (i % 256)]) := by
 have HB := Aside0.mk HB
 go_enter Tryz.func62, Tryz.ntmps62
 go_wp2_with (first | ((with_reducible refine qQ (b := .append) (xs := #[.tmp 5, .tmp 10]) rfl ?_); at_builtin; refine Bs.one (w0 := w0) (base := base) rfl (.tmp 5) (.tmp 10) 76 rfl Tryz.underlying76 zV v xs (Go.bits .or .u8 32 (i % 256)) rfl _ (World.size_alloc _ _).symm rfl (HB.out.alloc _) (by omega) ?_; intro v1 w1 h1 _; have H1 := Aside0.mk h1; clear h1))
 go_ret
 exact ⟨_, rfl, H1.out⟩
theorem bitLen_64 (x : Nat) (h : x < 18446744073709551616) : Lib.bitLen x ≤ 64 := by
 rcases Nat.eq_zero_or_pos x with rfl | h0
 · decide
 · have key : ∀ n x : Nat, x < 2 ^ n → n ≤ 64 → Lib.bitLen x ≤ n := by
    intro n
    induction n with
    | zero => intro x hx _; obtain rfl : x = 0 := by simpa using hx
              decide
    | succ n ih =>
     intro x hx hn
     by_cases h0 : x = 0
     · subst h0; have : Lib.bitLen 0 = 0 := by decide
       omega
     · have h64 : x < 2 ^ 64 := Nat.lt_of_lt_of_le hx (Nat.pow_le_pow_right (by omega) hn)
       rw [Lib.bitLen_half x h0 h64];have := ih (x / 2) (by rw [Nat.pow_succ] at hx; omega) (by omega)
       omega
   exact key 64 x h (Nat.le_refl _)
theorem layIntN_le (i : Int) (h0 : -9223372036854775808 ≤ i) (h1 : i ≤ 9223372036854775807) : zj i ≤ 8 := by
 unfold zj;have := bitLen_64 (if 0 ≤ i then i else -1 - i).toNat (by split <;> omega)
 omega
set_option maxHeartbeats 4000000 in
set_option maxRecDepth 100000 in
theorem layIntP (k i : Int) (t : ByteArray) (w0 W : World) (base : Nat) (v : Value) (xs : List Int) (HB : Bs w0 W base v xs) (hl : xs.length ≤ 1000000) (hi0 : 0 ≤ i) (hi1 : i ≤ 9223372036854775807) :
 Calls Tryz.prog 66 #[v, .agg #[.int .i64 k, .int .i64 i, .string t]] W fun e w' => ∃ v1, e = .returned v1 ∧ Bs w0 w' base v1 (xs ++ zL i) := by
 have HB := Aside0.mk HB
 have e1 : IntKind.u64.wrap i = i := by simp [IntKind.wrap, IntKind.signed, IntKind.bits]; omega
 have e2 : i / 9223372036854775808 = 0 := by omega
 have e3 := bits_xor_0 i hi0 (by omega)
 go_enter Tryz.func66, Tryz.ntmps66
 obtain ⟨L, hL⟩ : ∃ L, Lib.bitLen i.toNat = L := ⟨_, rfl⟩;have HN : Aside0 (zj i = (L + 7) / 8) := ⟨by unfold zj; rw [if_pos hi0, hL]⟩;have HL := Aside0.mk hL;have hL64 : L ≤ 64 := hL ▸ bitLen_64 i.toNat (by omega);clear hL;obtain ⟨n, hn⟩ : ∃ n, n = (L + 7) / 8 := ⟨_, rfl⟩
 have hn8 : n ≤ 8 := by omega
 have HN2 : Aside0 (zj i = n) := ⟨by rw [HN.out, hn]⟩
 have eN : ((L : Int) + 7) / 8 = (n : Int) := by omega
 clear HN hn;have HT : Aside0 ([56 + (n : Int)] ++ rems (IntKind.u64.wrap i) n = zL i) := ⟨by unfold zL; rw [HN2.out, if_pos hi0]; rfl⟩;rw [e1] at HT;clear HN2
 go_wp2_with (first | (go_at_call 78; refine (Tryz.bits_Len64 i _ hi0 (by omega)).mono ?_; rintro e w' ⟨rfl, rfl⟩; rw [HL.out]) | ((with_reducible refine qQ (b := .append) (xs := #[.tmp 23, .tmp 27]) rfl ?_); at_builtin; refine Bs.one (w0 := w0) (base := base) rfl (.tmp 23) (.tmp 27) 76 rfl Tryz.underlying76 zV v xs (56 + (n : Int)) rfl _ (World.size_alloc _ _).symm rfl (HB.out.alloc _) (by omega) ?_; intro v1 w1 h1 _; have H1 := Aside0.mk h1; clear h1))
 clear HL eN hL64
 go_loopw [0, 7] (fun v0 v7 wr => ∃ (m : Nat) (ys : List Int), m ≤ n ∧ v7 = .int .i64 ((m : Int) - 1) ∧ Aside0 (ys ++ rems i m = zL i) ∧ Aside0 (ys.length ≤ 9 - m) ∧ Aside0 (Bs w0 wr base v0 (xs ++ ys))) (fun _ v7 _ => ((intOf v7) + 1).toNat)
 case atStart => exact ⟨n, [56 + (n : Int)], Nat.le_refl _, rfl, HT, ⟨by simp; omega⟩, H1⟩
 case round =>
  clear H1 HT HB;obtain ⟨m, ys, hm, rfl, HT, HY, HB⟩ := hrel
  by_cases hpos : 0 < m
  · obtain ⟨m, rfl⟩ : ∃ q, m = q + 1 := ⟨m - 1, by omega⟩
    have d1 : decide ((0 : Int) ≤ ((m + 1 : Nat) : Int) - 1) = true := decide_eq_true (by omega)
    have e5 : ((m + 1 : Nat) : Int) - 1 = (m : Int) := by omega
    rw [e5];rw [e5] at d1;have H2 : Aside0 ((ys ++ [i / 2 ^ (8 * m) % 256]) ++ rems i m = zL i) := ⟨by rw [← HT.out, rems]; simp⟩
    have hlen : (xs ++ ys).length ≤ 1000000000 := by have := HY.out; simp; omega
    clear e5
    go_wp2_with (first | ((with_reducible refine qQ (b := .append) (xs := #[.tmp 41, .tmp 49]) rfl ?_); at_builtin; refine Bs.one (w0 := w0) (base := base) rfl (.tmp 41) (.tmp 49) 76 rfl Tryz.underlying76 zV u0 (xs ++ ys) (i / 2 ^ (8 * m) % 256) rfl _ rfl rfl HB.out hlen ?_; intro v2 w2 h1 _; rw [List.append_assoc] at h1; have H1 := Aside0.mk h1; clear h1))
    go_roundw
    case rel => exact ⟨m, _, by omega, rfl, H2, ⟨by have := HY.out; simp; omega⟩, H1⟩
    case measure => simp [intOf]
  · obtain rfl : m = 0 := by omega
    have H2 : Aside0 (ys = zL i) := ⟨by rw [← HT.out]; simp [rems]⟩;have e5 : ((0 : Nat) : Int) - 1 = -1 := rfl;rw [e5];go_wp2
    go_ret
    exact ⟨_, rfl, by rw [← H2.out]; exact HB.out⟩
set_option maxHeartbeats 4000000 in
set_option maxRecDepth 100000 in
theorem layIntM (k i : Int) (t : ByteArray) (w0 W : World) (base : Nat) (v : Value) (xs : List Int) (HB : Bs w0 W base v xs) (hl : xs.length ≤ 1000000) (hi0 : i < 0) (hi1 : -9223372036854775808 ≤ i) :
 Calls Tryz.prog 66 #[v, .agg #[.int .i64 k, .int .i64 i, .string t]] W fun e w' => ∃ v1, e = .returned v1 ∧ Bs w0 w' base v1 (xs ++ zL i) := by
 have HB := Aside0.mk HB;obtain ⟨U, hU⟩ : ∃ U, U = IntKind.u64.wrap i := ⟨_, rfl⟩;have e1 : IntKind.u64.wrap i = U := hU.symm
 have hU2 : U = i + 18446744073709551616 := by rw [hU]; simp [IntKind.wrap, IntKind.signed, IntKind.bits]; omega
 obtain ⟨V, hV⟩ : ∃ V, V = -1 - i := ⟨_, rfl⟩
 have hV0 : 0 ≤ V := by omega
 have hV1 : V < 18446744073709551616 := by omega
 have e2 : U / 9223372036854775808 = 1 := by omega
 have e3 := bits_xor_1 U (by omega) (by omega);rw [show 18446744073709551615 - U = V by omega] at e3;have e4 := bits_xor_1 V (by omega) (by omega);rw [show 18446744073709551615 - V = U by omega] at e4;have HE := Aside0.mk e1;have HV := Aside0.mk hV;clear hU hU2 hV
 go_enter Tryz.func66, Tryz.ntmps66
 obtain ⟨L, hL⟩ : ∃ L, Lib.bitLen V.toNat = L := ⟨_, rfl⟩;have HN : Aside0 (zj i = (L + 7) / 8) := ⟨by unfold zj; rw [if_neg (by omega), ← HV.out, hL]⟩;have HL := Aside0.mk hL;have hL64 : L ≤ 64 := hL ▸ bitLen_64 V.toNat (by omega);clear hL;obtain ⟨n, hn⟩ : ∃ n, n = (L + 7) / 8 := ⟨_, rfl⟩
 have hn8 : n ≤ 8 := by omega
 have HN2 : Aside0 (zj i = n) := ⟨by rw [HN.out, hn]⟩
 have eN : ((L : Int) + 7) / 8 = (n : Int) := by omega
 clear HN hn;have HT : Aside0 ([55 - (n : Int)] ++ rems (IntKind.u64.wrap i) n = zL i) := ⟨by unfold zL; rw [HN2.out, if_neg (by omega)]; rfl⟩;rw [HE.out] at HT;clear HN2
 go_wp2_with (first | (go_at_call 78; refine (Tryz.bits_Len64 V _ hV0 (by omega)).mono ?_; rintro e w' ⟨rfl, rfl⟩; rw [HL.out]) | ((with_reducible refine qQ (b := .append) (xs := #[.tmp 29, .tmp 33]) rfl ?_); at_builtin; refine Bs.one (w0 := w0) (base := base) rfl (.tmp 29) (.tmp 33) 76 rfl Tryz.underlying76 zV v xs (55 - (n : Int)) rfl _ (World.size_alloc _ _).symm rfl (HB.out.alloc _) (by omega) ?_; intro v1 w1 h1 _; have H1 := Aside0.mk h1; clear h1))
 clear HL eN hL64
 go_loopw [0, 7] (fun v0 v7 wr => ∃ (m : Nat) (ys : List Int), m ≤ n ∧ v7 = .int .i64 ((m : Int) - 1) ∧ Aside0 (ys ++ rems U m = zL i) ∧ Aside0 (ys.length ≤ 9 - m) ∧ Aside0 (Bs w0 wr base v0 (xs ++ ys))) (fun _ v7 _ => ((intOf v7) + 1).toNat)
 case atStart => exact ⟨n, [55 - (n : Int)], Nat.le_refl _, rfl, HT, ⟨by simp; omega⟩, H1⟩
 case round =>
  clear H1 HT HB;obtain ⟨m, ys, hm, rfl, HT, HY, HB⟩ := hrel
  by_cases hpos : 0 < m
  · obtain ⟨m, rfl⟩ : ∃ q, m = q + 1 := ⟨m - 1, by omega⟩
    have d1 : decide ((0 : Int) ≤ ((m + 1 : Nat) : Int) - 1) = true := decide_eq_true (by omega)
    have e5 : ((m + 1 : Nat) : Int) - 1 = (m : Int) := by omega
    rw [e5];rw [e5] at d1;have H2 : Aside0 ((ys ++ [U / 2 ^ (8 * m) % 256]) ++ rems U m = zL i) := ⟨by rw [← HT.out, rems]; simp⟩
    have hlen : (xs ++ ys).length ≤ 1000000000 := by have := HY.out; simp; omega
    clear e5
    go_wp2_with (first | ((with_reducible refine qQ (b := .append) (xs := #[.tmp 41, .tmp 49]) rfl ?_); at_builtin; refine Bs.one (w0 := w0) (base := base) rfl (.tmp 41) (.tmp 49) 76 rfl Tryz.underlying76 zV u0 (xs ++ ys) (U / 2 ^ (8 * m) % 256) rfl _ rfl rfl HB.out hlen ?_; intro v2 w2 h1 _; rw [List.append_assoc] at h1; have H1 := Aside0.mk h1; clear h1))
    go_roundw
    case rel => exact ⟨m, _, by omega, rfl, H2, ⟨by have := HY.out; simp; omega⟩, H1⟩
    case measure => simp [intOf]
  · obtain rfl : m = 0 := by omega
    have H2 : Aside0 (ys = zL i) := ⟨by rw [← HT.out]; simp [rems]⟩;have e5 : ((0 : Nat) : Int) - 1 = -1 := rfl;rw [e5];go_wp2
    go_ret
    exact ⟨_, rfl, by rw [← H2.out]; exact HB.out⟩
theorem layIntA (k i : Int) (t : ByteArray) (w0 W : World) (base : Nat) (v : Value) (xs : List Int) (HB : Bs w0 W base v xs) (hl : xs.length ≤ 1000000) (hi0 : -9223372036854775808 ≤ i) (hi1 : i ≤ 9223372036854775807) :
 Calls Tryz.prog 66 #[v, .agg #[.int .i64 k, .int .i64 i, .string t]] W fun e w' => ∃ v1, e = .returned v1 ∧ Bs w0 w' base v1 (xs ++ zL i) := by
 by_cases h : 0 ≤ i
 · exact layIntP k i t w0 W base v xs HB hl h hi1
 · exact layIntM k i t w0 W base v xs HB hl (by omega) hi0
theorem reads_two (W : World) (x y : Int) (e : Nat) : xV (W.alloc (.cells #[.int .u8 x, .int .u8 y] e)) .u8 (some ⟨W.heap.size, 0, none⟩) 2 [x, y] := by
 refine ⟨rfl, by omega, fun _ => ⟨_, rfl, fun j hj => ?_⟩⟩;rw [add_plain]
 have : j = 0 ∨ j = 1 := by omega
 rcases this with rfl | rfl <;> simp [World.cell?_alloc_new]
theorem replaceK_len (old new : List UInt8) : ∀ (k : Nat) (s : List UInt8), (Lib.replaceK old new k s).length ≤ s.length + k * new.length := by
 intro k
 induction k with
 | zero => intro s; simp [Lib.replaceK]
 | succ k ih =>
  intro s;unfold Lib.replaceK
  split
  · omega
  · have := ih (s.drop ((Lib.index s old).toNat + old.length))
    simp only [List.length_append, List.length_take, List.length_drop] at *;rw [Nat.succ_mul]
    omega
theorem replaceAll_len (t : ByteArray) : (Lib.replaceAll t.data.toList [0] [0, 255]).length ≤ 3 * t.size := by
 unfold Lib.replaceAll Lib.replace;rw [if_neg (by decide)];have h := replaceK_len [0] [0, 255] (Lib.replaceNum t.data.toList [0] (-1)) t.data.toList
 have h2 : Lib.replaceNum t.data.toList [0] (-1) ≤ t.size := by
  unfold Lib.replaceNum;rw [if_pos (by omega)]
  exact Lib.countB_le ⟨#[0]⟩ (by decide) t.size t (Nat.le_refl _)
 have h3 : t.data.toList.length = t.size := by rw [Array.length_toList]; rfl
 simp only [List.length_cons, List.length_nil] at h
 omega
set_option maxHeartbeats 4000000 in
set_option maxRecDepth 100000 in
theorem layTextC (k i : Int) (t : ByteArray) (w0 W : World) (base : Nat) (v : Value) (xs : List Int) (HB : Bs w0 W base v xs) (hl : xs.length ≤ 1000000) (ht : t.size ≤ 1000000) (m : Int) (hm : w0.cell? ⟨1, 0, none⟩ = some (.int .i64 m)) (hmb : 1 < base) :
 Calls Tryz.prog 71 #[v, .agg #[.int .i64 k, .int .i64 i, .string t]] W fun e w' => ∃ v1, e = .returned v1 ∧ Bs w0 w' base v1 (xs ++ xv t) := by
 have HB := Aside0.mk HB;have HM := Aside0.mk hm;clear hm;obtain ⟨Y, hY⟩ : ∃ Y : ByteArray, (⟨(Lib.replaceAll t.data.toList [0] [0, 255]).toArray⟩ : ByteArray) = Y := ⟨_, rfl⟩;have HY := Aside0.mk hY
 have hYs : Y.size ≤ 3000000 := by
  have h := replaceAll_len t;rw [← hY];show (Lib.replaceAll t.data.toList [0] [0, 255]).toArray.size ≤ _
  simp; omega
 clear hY
 go_enter Tryz.func71, Tryz.ntmps71
 go_wp2_with (first
  | ((with_reducible refine qQ (b := .append) (xs := #[.tmp 5, .tmp 6]) rfl ?_); at_builtin; refine Bs.one (w0 := w0) (base := base) rfl (.tmp 5) (.tmp 6) 76 rfl Tryz.underlying76 zV v xs 80 rfl _ (World.size_alloc _ _).symm rfl (HB.out.alloc _) (by omega) ?_; intro v1 w1 h1 hk; have H1 := Aside0.mk h1; have hc2 : w1.cell? ⟨W.heap.size, 2, none⟩ = some (.string t) := (qe (hk W.heap.size _ 42 (by decide) (heap_alloc_new W _)) 2).trans rfl; clear h1 hk)
  | (go_at_call 80; refine (Tryz.strings_ReplaceAll t ⟨#[0]⟩ ⟨#[0, 255]⟩ m _ (by omega) ((H1.out.2.1.cell hmb).trans HM.out) (by decide) (by have := Lib.countB_le ⟨#[0]⟩ (by decide) t.size t (Nat.le_refl _); simp only [show (⟨#[0, 255]⟩ : ByteArray).size = 2 from rfl]; omega)).mono ?_; rintro e w2 ⟨rfl, hb⟩; rw [HY.out]; have H2 := Aside0.mk (H1.out.below hb); clear hb hc2)
  | ((with_reducible refine qQ (b := .append) (xs := #[.tmp 8, .tmp 11]) rfl ?_); at_builtin; refine Bs.str (w0 := w0) (base := base) rfl (.tmp 8) (.tmp 11) 76 9 rfl Tryz.underlying76 Tryz.underlying9 zV v1 (xs ++ [80]) Y rfl rfl H2.out (by simp; omega) ?_; intro v3 w3 h1 _; have H3 := Aside0.mk h1; clear h1)
  | ((with_reducible refine qQ (b := .append) (xs := #[.tmp 13, .tmp 14]) rfl ?_); at_builtin; refine Bs.row (w0 := w0) (base := base) rfl (.tmp 13) (.tmp 14) 76 rfl Tryz.underlying76 zV v3 (xs ++ [80] ++ zh Y) [0, 1] (some ⟨w3.heap.size, 0, none⟩) 2 2 rfl rfl (reads_two w3 0 1 5) (H3.out.alloc _) (by simp [zm]; omega) ?_; intro v4 w4 h1 _; have H4 := Aside0.mk h1; clear h1))
 go_ret
 refine ⟨_, rfl, ?_⟩
 have e : xs ++ [80] ++ zh Y ++ [0, 1] = xs ++ xv t := by unfold xv; rw [HY.out]; simp
 rw [← e]
 exact H4.out
def layV (x : S42) : List Int := layB x.f0 x.f1 x.f2
theorem rems_length (u : Int) : ∀ n, (rems u n).length = n := by
 intro n
 induction n with
 | zero => rfl
 | succ n ih => simp [rems, ih]
theorem layV_len (x : S42) (h : xJ x) : (layV x).length ≤ 20000 := by
 obtain ⟨_, _, h2, h3, h4⟩ := h;unfold layV layB
 split
 · simp
 split
 · simp
 split
 · have := layIntN_le x.f1 h2 h3
   simp [zL, rems_length]; omega
 · have := replaceAll_len x.f2
   have e : ∀ l : List UInt8, (zh ⟨l.toArray⟩).length = l.length := fun l => by rw [zm]; show l.toArray.size = _; simp
   simp only [xv, List.length_append, e, List.length_cons, List.length_nil]
   omega
def xe.f (k : Nat) (l : List S42) : Option (ByteArray × Int) :=
 (qW.f k l).bind fun e => if e = 0 then (if xZ l then some (strOfNums (l.flatMap layV), 0) else none) else some (⟨#[]⟩, e)
set_option maxHeartbeats 4000000 in
set_option maxRecDepth 100000 in
theorem xe.calls (k : Nat) (A0 : Option Addr) (c0 : Nat) (l0 : List (S42)) (r1 : ByteArray) (r2 : Int) (w : World) (hr0 : Kd.C k42 w A0 l0.length l0) (hc0 : l0.length ≤ c0) (h : xe.f k l0 = some (r1, r2)) (hG : GL w) :
 Calls Tryz.prog 43 #[.slice A0 l0.length c0] w fun e w' => e = .returned (.tuple #[.string r1, .int .i64 r2]) ∧ Below w.heap.size w w' := by
 unfold xe.f at h;obtain ⟨e0, he0, h⟩ := Option.bind_eq_some_iff.1 h;have HE := Aside0.mk he0;have HR0 := Aside0.mk hr0;have HG := Aside0.mk hG;obtain ⟨mm, hmm⟩ := hG.maxlen;have HM := Aside0.mk hmm;clear he0 hr0 hG hmm;have HB := Aside0.mk (Below.refl w.heap.size w)
 by_cases hz : e0 = 0
 case neg =>
  rw [if_neg hz] at h;simp only [Option.some.injEq, Prod.mk.injEq] at h;obtain ⟨rfl, rfl⟩ := h;have d1 : decide (e0 = 0) = false := decide_eq_false hz
  go_enter Tryz.func43, Tryz.ntmps43
  go_wp2_with (first | (go_at_call 54; refine (qW.calls k A0 c0 l0 e0 _ HR0.out hc0 HE.out HG.out).mono ?_; rintro e w1 ⟨rfl, hb⟩))
  go_ret2
  exact ⟨rfl, hb⟩
 subst hz;rw [if_pos rfl] at h
 by_cases hg : xZ l0
 case neg => rw [if_neg hg] at h; exact absurd h (by simp)
 rw [if_pos hg] at h;simp only [Option.some.injEq, Prod.mk.injEq] at h;obtain ⟨hr, rfl⟩ := h;have Hr := Aside0.mk hr;have HGV := Aside0.mk hg;have hl16 : l0.length ≤ 16 := hg.1;clear hr hg
 go_enter Tryz.func43, Tryz.ntmps43
 go_wp2_with (first | (go_at_call 54; refine (qW.calls k A0 c0 l0 0 _ HR0.out hc0 HE.out HG.out).mono ?_; rintro e w1 ⟨rfl, hb⟩; have HB1 := Aside0.mk hb; clear hb))
 go_loopw [5, 15] (fun v5 v15 wr => ∃ (n : Nat), n ≤ l0.length ∧ v15 = .int .i64 (n : Int) ∧ Aside0 (Bs w wr w.heap.size v5 ((l0.take n).flatMap layV))) (fun _ v15 _ => l0.length - (intOf v15).toNat)
 case atStart => exact ⟨0, Nat.zero_le _, rfl, ⟨by simpa using Bs.nil HB1.out⟩⟩
 case round =>
  clear HB1 HB;obtain ⟨n, hn, rfl, HBS⟩ := hrel
  by_cases hlt : n < l0.length
  · have d1 : decide ((n : Int) < (l0.length : Int)) = true := decide_eq_true (by omega)
    have d2 : decide (n < l0.length) = true := decide_eq_true hlt;obtain ⟨ad, e1, h0, h1, h2⟩ := vj HR0.out (n : Int) (by omega) (by omega);cases e1;simp only [Int.toNat_natCast] at h0 h1 h2;replace h0 := (HBS.out.2.1.cell (World.block_lt_of_cell? w _ h0)).trans h0;replace h1 := (HBS.out.2.1.cell (World.block_lt_of_cell? w _ h1)).trans h1;replace h2 := (HBS.out.2.1.cell (World.block_lt_of_cell? w _ h2)).trans h2;have HT := Aside0.mk (rd_take (l := l0) layV n hlt);have HX := Aside0.mk (goodVals_at HGV.out n hlt)
    have hlen : ((l0.take n).flatMap layV).length ≤ 400000 := by
     have hh := flat_len (l := l0.take n) layV 20000 (fun x hx => layV_len x (HGV.out.2 x (List.mem_of_mem_take hx)))
     have : (l0.take n).length ≤ 16 := by simp; omega
     omega
    have HLEN := Aside0.mk hlen;have hml := HM.out;have HMB : Aside0 (1 < w.heap.size) := ⟨World.block_lt_of_cell? w ⟨1, 0, none⟩ HM.out⟩;clear hlen hml;generalize qJ l0 (n : Int) = x at *;obtain ⟨x0, x1, x2⟩ := x;obtain ⟨g0, g1, g2, g3, g4⟩ := HX.out
    simp only at g0 g1 g2 g3 g4
    clear HX;have HI2 := Aside0.mk (And.intro g2 g3);have HI4 := Aside0.mk g4;clear g2 g3 g4;have hfl := codec_lay
    have hk4 : x0 = 0 ∨ x0 = 1 ∨ x0 = 2 ∨ x0 = 3 := by omega
    clear g0 g1
    rcases hk4 with rfl | rfl | rfl | rfl
    · have HT2 : Aside0 ((l0.take (n + 1)).flatMap layV = (l0.take n).flatMap layV ++ [16]) := ⟨HT.out⟩
      clear HT
      go_wp2_with fail
      go_region_with (first
       | (go_at_call 55; go_must (refine (codecs_call0 _).mono ?_; rintro e w2 ⟨rfl, hb⟩; have hq : ∀ (j : Nat) (v : Value), (#[.int .i64 0, .int .i64 x1, .string x2] : Array Value)[j]? = some v → w2.cell? ⟨wr.heap.size, j, none⟩ = some v := fun j v hv => zg hb ((World.cell?_alloc_new wr _ 42 j).trans hv); have hq0 := hq 0 _ rfl; have hq1 := hq 1 _ rfl; have hq2 := hq 2 _ rfl; have HBS2 := Aside0.mk ((HBS.out.alloc _).drew.below hb); clear hb hq))
       | (go_at_call 59; go_must (refine (lay0 0 x1 x2 w _ w.heap.size u5 _ HBS2.out (Nat.le_trans HLEN.out (by omega))).mono ?_; rintro e w3 ⟨v3, rfl, hb3⟩; rw [← HT2.out] at hb3; have HB3 := Aside0.mk hb3; clear hb3)))
      all_goals go_wp2
      all_goals go_roundw
      all_goals first | exact ⟨n + 1, by omega, by go_num, HB3⟩ | (simp [intOf]; omega)
    · have HT2 : Aside0 ((l0.take (n + 1)).flatMap layV = (l0.take n).flatMap layV ++ [Go.bits .or .u8 32 (x1 % 256)]) := ⟨HT.out⟩
      clear HT
      go_wp2_with fail
      go_region_with (first
       | (go_at_call 55; go_must (refine (codecs_call1 _).mono ?_; rintro e w2 ⟨rfl, hb⟩; have hq : ∀ (j : Nat) (v : Value), (#[.int .i64 1, .int .i64 x1, .string x2] : Array Value)[j]? = some v → w2.cell? ⟨wr.heap.size, j, none⟩ = some v := fun j v hv => zg hb ((World.cell?_alloc_new wr _ 42 j).trans hv); have hq0 := hq 0 _ rfl; have hq1 := hq 1 _ rfl; have hq2 := hq 2 _ rfl; have HBS2 := Aside0.mk ((HBS.out.alloc _).drew.below hb); clear hb hq))
       | (go_at_call 62; go_must (refine (lay1 1 x1 x2 w _ w.heap.size u5 _ HBS2.out (Nat.le_trans HLEN.out (by omega))).mono ?_; rintro e w3 ⟨v3, rfl, hb3⟩; rw [← HT2.out] at hb3; have HB3 := Aside0.mk hb3; clear hb3)))
      all_goals go_wp2
      all_goals go_roundw
      all_goals first | exact ⟨n + 1, by omega, by go_num, HB3⟩ | (simp [intOf]; omega)
    · have HT2 : Aside0 ((l0.take (n + 1)).flatMap layV = (l0.take n).flatMap layV ++ zL x1) := ⟨HT.out⟩
      clear HT
      go_wp2_with fail
      go_region_with (first
       | (go_at_call 55; go_must (refine (codecs_call2 _).mono ?_; rintro e w2 ⟨rfl, hb⟩; have hq : ∀ (j : Nat) (v : Value), (#[.int .i64 2, .int .i64 x1, .string x2] : Array Value)[j]? = some v → w2.cell? ⟨wr.heap.size, j, none⟩ = some v := fun j v hv => zg hb ((World.cell?_alloc_new wr _ 42 j).trans hv); have hq0 := hq 0 _ rfl; have hq1 := hq 1 _ rfl; have hq2 := hq 2 _ rfl; have HBS2 := Aside0.mk ((HBS.out.alloc _).drew.below hb); clear hb hq))
       | (go_at_call 66; go_must (refine (layIntA 2 x1 x2 w _ w.heap.size u5 _ HBS2.out (Nat.le_trans HLEN.out (by omega)) HI2.out.1 HI2.out.2).mono ?_; rintro e w3 ⟨v3, rfl, hb3⟩; rw [← HT2.out] at hb3; have HB3 := Aside0.mk hb3; clear hb3)))
      all_goals go_wp2
      all_goals go_roundw
      all_goals first | exact ⟨n + 1, by omega, by go_num, HB3⟩ | (simp [intOf]; omega)
    · have HT2 : Aside0 ((l0.take (n + 1)).flatMap layV = (l0.take n).flatMap layV ++ xv x2) := ⟨HT.out⟩
      clear HT
      go_wp2_with fail
      go_region_with (first
       | (go_at_call 55; go_must (refine (codecs_call3 _).mono ?_; rintro e w2 ⟨rfl, hb⟩; have hq : ∀ (j : Nat) (v : Value), (#[.int .i64 3, .int .i64 x1, .string x2] : Array Value)[j]? = some v → w2.cell? ⟨wr.heap.size, j, none⟩ = some v := fun j v hv => zg hb ((World.cell?_alloc_new wr _ 42 j).trans hv); have hq0 := hq 0 _ rfl; have hq1 := hq 1 _ rfl; have hq2 := hq 2 _ rfl; have HBS2 := Aside0.mk ((HBS.out.alloc _).drew.below hb); clear hb hq))
       | (go_at_call 71; go_must (refine (layTextC 3 x1 x2 w _ w.heap.size u5 _ HBS2.out (Nat.le_trans HLEN.out (by omega)) (Nat.le_trans HI4.out (by omega)) mm HM.out HMB.out).mono ?_; rintro e w3 ⟨v3, rfl, hb3⟩; rw [← HT2.out] at hb3; have HB3 := Aside0.mk hb3; clear hb3)))
      all_goals go_wp2
      all_goals go_roundw
      all_goals first | exact ⟨n + 1, by omega, by go_num, HB3⟩ | (simp [intOf]; omega)
  · have d1 : decide ((n : Int) < (l0.length : Int)) = false := decide_eq_false (by omega)
    have d2 : decide (n < l0.length) = false := decide_eq_false hlt;have e : l0.take n = l0 := List.take_of_length_le (by omega);have hcv := zA (P := Tryz.prog) (src := 76) (dst := 9) Tryz.underlying76 Tryz.underlying5 Tryz.underlying9 HBS.out.1;rw [e, Hr.out] at hcv;go_wp2
    go_ret2
    exact ⟨rfl, HBS.out.2.1⟩
def xj.f (a0 : Int) : Option (Int × Int × ByteArray) := some (2, a0, (⟨#[]⟩ : ByteArray))
set_option maxHeartbeats 8000000 in
set_option maxRecDepth 100000 in
theorem xj.calls (a0 : Int) (r1 : Int) (r2 : Int) (r3 : ByteArray) (w : World) (h : xj.f a0 = some (r1, r2, r3)) :
 Calls Tryz.prog 44 #[.int .i64 a0] w fun e w' => e = .returned (.agg #[.int .i64 r1, .int .i64 r2, .string r3]) ∧ Below w.heap.size w w' := by
 have hu42 := Tryz.underlying42;have HB := Aside0.mk (Below.refl w.heap.size w);have H : (some (2, a0, (⟨#[]⟩ : ByteArray))) = some (r1, r2, r3) := h;clear h;simp only [Option.some.injEq, Prod.mk.injEq] at H;obtain ⟨rfl, rfl, rfl⟩ := H
 go_enter Tryz.func44, Tryz.ntmps44
 go_wp2_with (first | ((with_reducible refine qG (N := 2) rfl ?_); refine qF ?hg (N := 2) ?hd (cs := #[.int .i64 0, .int .i64 0, .string (⟨#[]⟩ : ByteArray)]) (t := 42) ?hr ?_; (case hd => rfl); (case hg => rfl); (case hr => first | (go_simp; done) | (go_simp; rfl)); intro gb117 hg w2 hbox hb; have BK117 := Aside0.mk (hbox); have GW117 := Aside0.mk ((by rw [hg]; exact (qj (by repeat (first | (with_reducible first | exact HB.out | apply qa | apply q8 | apply qd) | exact HB.out))) : w.heap.size ≤ gb117)); have GE117 := Aside0.mk ((by rw [hg]; exact (qj (by repeat (first | (with_reducible first | exact HB.out | apply qa | apply q8 | apply qd) | exact HB.out))) : w.heap.size ≤ gb117)); replace HB := Aside0.mk (qt (by repeat (first | (with_reducible first | exact HB.out | apply qa | apply q8 | apply qd) | exact HB.out)) hb); clear hb hbox hg; have hcz3_0 : w2.cell? ⟨gb117, 0, none⟩ = some (.int .i64 0) := (qe BK117.out 0).trans rfl; have hcz3_1 : w2.cell? ⟨gb117, 1, none⟩ = some (.int .i64 0) := (qe BK117.out 1).trans rfl; have hcz3_2 : w2.cell? ⟨gb117, 2, none⟩ = some (.string (⟨#[]⟩ : ByteArray)) := (qe BK117.out 2).trans rfl; have hfz3_0 := q9 BK117.out 0; have hfz3_1 := q9 BK117.out 1; have hfz3_2 := q9 BK117.out 2))
 refine bodyPost_ret (results_cell_row rfl _ _ gb117 42 #[.int .i64 2, .int .i64 a0, .string (⟨#[]⟩ : ByteArray)] (0, 0) _ rfl (by (with_reducible repeat (first | refine qc ?_ _ | refine qg ?_ | refine qb ?_ _)); refine qu (cs := #[.int .i64 2, .int .i64 a0, .string (⟨#[]⟩ : ByteArray)]) ?_ 2 _ rfl; (with_reducible repeat (first | refine qc ?_ _ | refine qg ?_ | refine qb ?_ _)); refine qu (cs := #[.int .i64 2, .int .i64 0, .string (⟨#[]⟩ : ByteArray)]) ?_ 1 _ rfl; (with_reducible repeat (first | refine qc ?_ _ | refine qg ?_ | refine qb ?_ _)); refine qu (cs := #[.int .i64 0, .int .i64 0, .string (⟨#[]⟩ : ByteArray)]) ?_ 0 _ rfl; (with_reducible repeat (first | refine qc ?_ _ | refine qg ?_ | refine qb ?_ _)); exact BK117.out) Tryz.underlying42 rfl (by kernel_rfl)) rfl ?_
 exact ⟨by first | rfl | (simp [qm, qn] <;> rfl) | (simp [*, qm, qn] <;> rfl), by repeat (first | (with_reducible first | exact HB.out | apply qa | apply q8 | apply qd | refine qf ?_ GE117.out) | exact HB.out)⟩
def xC.f (a0 : ByteArray) : Option (Int × Int × ByteArray) := some (3, 0, a0)
set_option maxHeartbeats 8000000 in
set_option maxRecDepth 100000 in
theorem xC.calls (a0 : ByteArray) (r1 : Int) (r2 : Int) (r3 : ByteArray) (w : World) (h : xC.f a0 = some (r1, r2, r3)) :
 Calls Tryz.prog 45 #[.string a0] w fun e w' => e = .returned (.agg #[.int .i64 r1, .int .i64 r2, .string r3]) ∧ Below w.heap.size w w' := by
 have hu42 := Tryz.underlying42;have HB := Aside0.mk (Below.refl w.heap.size w);have H : (some (3, 0, a0)) = some (r1, r2, r3) := h;clear h;simp only [Option.some.injEq, Prod.mk.injEq] at H;obtain ⟨rfl, rfl, rfl⟩ := H
 go_enter Tryz.func45, Tryz.ntmps45
 go_wp2_with (first | ((with_reducible refine qG (N := 2) rfl ?_); refine qF ?hg (N := 2) ?hd (cs := #[.int .i64 0, .int .i64 0, .string (⟨#[]⟩ : ByteArray)]) (t := 42) ?hr ?_; (case hd => rfl); (case hg => rfl); (case hr => first | (go_simp; done) | (go_simp; rfl)); intro gb118 hg w2 hbox hb; have BK118 := Aside0.mk (hbox); have GW118 := Aside0.mk ((by rw [hg]; exact (qj (by repeat (first | (with_reducible first | exact HB.out | apply qa | apply q8 | apply qd) | exact HB.out))) : w.heap.size ≤ gb118)); have GE118 := Aside0.mk ((by rw [hg]; exact (qj (by repeat (first | (with_reducible first | exact HB.out | apply qa | apply q8 | apply qd) | exact HB.out))) : w.heap.size ≤ gb118)); replace HB := Aside0.mk (qt (by repeat (first | (with_reducible first | exact HB.out | apply qa | apply q8 | apply qd) | exact HB.out)) hb); clear hb hbox hg; have hcz3_0 : w2.cell? ⟨gb118, 0, none⟩ = some (.int .i64 0) := (qe BK118.out 0).trans rfl; have hcz3_1 : w2.cell? ⟨gb118, 1, none⟩ = some (.int .i64 0) := (qe BK118.out 1).trans rfl; have hcz3_2 : w2.cell? ⟨gb118, 2, none⟩ = some (.string (⟨#[]⟩ : ByteArray)) := (qe BK118.out 2).trans rfl; have hfz3_0 := q9 BK118.out 0; have hfz3_1 := q9 BK118.out 1; have hfz3_2 := q9 BK118.out 2))
 refine bodyPost_ret (results_cell_row rfl _ _ gb118 42 #[.int .i64 3, .int .i64 0, .string a0] (0, 0) _ rfl (by (with_reducible repeat (first | refine qc ?_ _ | refine qg ?_ | refine qb ?_ _)); refine qu (cs := #[.int .i64 3, .int .i64 0, .string (⟨#[]⟩ : ByteArray)]) ?_ 2 _ rfl; (with_reducible repeat (first | refine qc ?_ _ | refine qg ?_ | refine qb ?_ _)); refine qu (cs := #[.int .i64 3, .int .i64 0, .string (⟨#[]⟩ : ByteArray)]) ?_ 1 _ rfl; (with_reducible repeat (first | refine qc ?_ _ | refine qg ?_ | refine qb ?_ _)); refine qu (cs := #[.int .i64 0, .int .i64 0, .string (⟨#[]⟩ : ByteArray)]) ?_ 0 _ rfl; (with_reducible repeat (first | refine qc ?_ _ | refine qg ?_ | refine qb ?_ _)); exact BK118.out) Tryz.underlying42 rfl (by kernel_rfl)) rfl ?_
 exact ⟨by first | rfl | (simp [qm, qn] <;> rfl) | (simp [*, qm, qn] <;> rfl), by repeat (first | (with_reducible first | exact HB.out | apply qa | apply q8 | apply qd | refine qf ?_ GE118.out) | exact HB.out)⟩
end Go.Proofs.YtggbhdcgfnjogaaGreatDoor.PPc

