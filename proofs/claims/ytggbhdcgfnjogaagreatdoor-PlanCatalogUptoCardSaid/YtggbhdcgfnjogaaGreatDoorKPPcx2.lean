import Derived.Test.YtggbhdcgfnjogaaGreatDoorKPPcx0
namespace Go.Proofs.YtggbhdcgfnjogaaGreatDoor.PPc
open Go.RowKit Go.Proofs.YtggbhdcgfnjogaaGreatDoorW.PrintWords Go.Proofs.YtggbhdcgfnjogaaGreatDoorW.PrintLast Go.Proofs.YtggbhdcgfnjogaaGreatDoorW.PrintMore
set_option linter.unusedVariables false
set_option linter.unusedSimpArgs false
def xb (t c : Int) : Int := if t = 0 then c else 255 - c
def beR (s : ByteArray) (t : Int) : Nat → Nat → Int
 | 0, _ => 0
 | n + 1, p => beR s t n p * 256 + xb t (bt s ((p + n : Nat) : Int))
def intR (s : ByteArray) (p n : Nat) (t : Int) : Except Int (S42 × Nat) :=
 if s.size < p + n then .error 11
 else if 0 < n ∧ xb t (bt s (p : Int)) = 0 then .error 13
 else if 9223372036854775807 < beR s t n p then .error 10
 else .ok (⟨2, if t = 0 then beR s t n p else -1 - beR s t n p, ⟨#[]⟩⟩, p + n)
theorem turnB_bd (t c : Int) (h : 0 ≤ c ∧ c ≤ 255) : 0 ≤ xb t c ∧ xb t c ≤ 255 := by unfold xb; split <;> omega
theorem beR_bd (s : ByteArray) (t : Int) (p : Nat) : ∀ n, 0 ≤ beR s t n p ∧ beR s t n p < 256 ^ n := by
 intro n
 induction n with
 | zero => simp [beR]
 | succ n ih =>
  have := turnB_bd t _ (zG s ((p + n : Nat) : Int));rw [beR, Int.pow_succ]
  omega
theorem xor8 (t c : Int) (ht : t = 0 ∨ t = 255) (h : 0 ≤ c ∧ c ≤ 255) : Go.bits .xor .u8 c t = xb t c := by
 have h0 : ∀ b : Fin 256, Go.bits .xor .u8 (b.val : Int) 0 = (b.val : Int) := by decide +kernel
 have h1 : ∀ b : Fin 256, Go.bits .xor .u8 (b.val : Int) 255 = 255 - (b.val : Int) := by decide +kernel
 obtain ⟨n, rfl⟩ := Int.eq_ofNat_of_zero_le h.1
 rcases ht with rfl | rfl
 · exact h0 ⟨n, by omega⟩
 · exact h1 ⟨n, by omega⟩
theorem or256 (u c : Int) (h0 : 0 ≤ u) (h1 : u < 72057594037927936) (hc : 0 ≤ c ∧ c ≤ 255) : Go.bits .or .u64 (u * 256) c = u * 256 + c :=
 bits_join .u64 64 (by decide) wraps_u64 8 (u * 256) c (by omega) (by omega) (by omega) hc.1 (by omega) (by omega)
set_option maxHeartbeats 4000000 in
set_option maxRecDepth 100000 in
theorem int_ok (rb : Nat) (s : ByteArray) (p n q : Nat) (t : Int) (x : S42) (w : World) (hR : Rd w rb s p) (hs : s.size ≤ 1000000000) (hn : n ≤ 8) (ht : t = 0 ∨ t = 255) (hc : intR s p n t = .ok (x, q)) :
 Calls Tryz.prog 35 #[.pointer (some ⟨rb, 0, none⟩), .int .i64 (n : Int), .int .u8 t] w fun e w' => e = .returned (valV x) ∧ Rd w' rb s q ∧ w.grownBy w' (some rb) := by
 unfold intR at hc
 by_cases c1 : s.size < p + n
 · rw [if_pos c1] at hc; cases hc
 rw [if_neg c1] at hc
 by_cases c2 : 0 < n ∧ xb t (bt s (p : Int)) = 0
 · rw [if_pos c2] at hc; cases hc
 rw [if_neg c2] at hc
 by_cases c3 : 9223372036854775807 < beR s t n p
 · rw [if_pos c3] at hc; cases hc
 rw [if_neg c3] at hc
 injection hc with hc
 injection hc with hx hq
 subst hq;have HX := Aside0.mk hx;have HT := Aside0.mk ht;have HC2 := Aside0.mk c2;clear hx c2;have hrb := qK hR;have h0 := hR.c0;have h1 := hR.c1;have HR := Aside0.mk hR;clear hR;have d1 : decide ((s.size : Int) - (p : Int) < (n : Int)) = false := decide_eq_false (by omega)
 go_enter Tryz.func35, Tryz.ntmps35
 go_wp2_with fail
 go_quiet (first | (go_at_call 20; exact Calls.quiet_of_same (xh _ 11 _)))
 go_wp2
 go_loopw [7, 26] (fun v7 v26 wr => ∃ (j : Nat), j ≤ n ∧ v26 = .int .i64 (j : Int) ∧ v7 = .int .u64 (beR s t j p) ∧ Aside0 (Rd wr rb s (p + j)) ∧ Aside0 ((w.alloc (.cells #[.int .i64 0, .int .i64 0, .string ⟨#[]⟩] 42)).grownBy wr (some rb))) (fun _ v26 _ => n - (intOf v26).toNat)
 case atStart => exact ⟨0, Nat.zero_le _, rfl, rfl, ⟨qc (qb HR.out _) _⟩, ⟨zd (q8 (Below.refl _ _) _) _⟩⟩
 case round =>
  clear h0 h1;obtain ⟨j, hj, rfl, rfl, HRJ, HGJ⟩ := hrel
  by_cases hlt : j < n
  · have e1 : decide ((j : Int) < (n : Int)) = true := decide_eq_true (by omega)
    have e2 : decide (j < n) = true := decide_eq_true hlt;obtain ⟨u0, u1⟩ := beR_bd s t p j
    have hu7 : beR s t j p < 72057594037927936 := by
     have : (256 : Int) ^ j ≤ 256 ^ 7 := by
      have hj' : j = 0 ∨ j = 1 ∨ j = 2 ∨ j = 3 ∨ j = 4 ∨ j = 5 ∨ j = 6 ∨ j = 7 := by omega
      rcases hj' with rfl | rfl | rfl | rfl | rfl | rfl | rfl | rfl <;> decide
     omega
    have hb := zG s ((p + j : Nat) : Int);obtain ⟨b0, b1⟩ := turnB_bd t _ hb;have hx := xor8 t _ HT.out hb;have hor := or256 (beR s t j p) (xb t (bt s ((p + j : Nat) : Int))) u0 hu7 ⟨b0, b1⟩;have HN : Aside0 (beR s t (j + 1) p = beR s t j p * 256 + xb t (bt s ((p + j : Nat) : Int))) := ⟨rfl⟩
    have HZ : j = 0 → ¬ xb t (bt s ((p + j : Nat) : Int)) = 0 := by
     rintro rfl h
     exact HC2.out ⟨by omega, h⟩
    obtain ⟨b, hbe⟩ : ∃ b, bt s ((p + j : Nat) : Int) = b := ⟨_, rfl⟩;rw [hbe] at hx hor HN HZ b0 b1 hb;have HBE := Aside0.mk hbe;clear hbe;generalize xb t b = c at *;generalize beR s t j p = u at *;clear u1;obtain ⟨g0, g1⟩ := hb
    by_cases hj0 : j = 0
    · have hc0 : (c == 0) = false := by simpa using HZ hj0
      have hj1 : ((j : Int) == 0) = true := by simpa using hj0
      clear HZ hj0
      go_wp2_with (first | (go_at_call 34; go_must (refine (zw rb s (p + j) _ HRJ.out (by omega) hs).mono ?_; rintro e w1 ⟨rfl, hR1, hg1⟩; rw [HBE.out]; have HR1 := Aside0.mk hR1; have HG1 := Aside0.mk (HGJ.out.trans hg1); clear hR1 hg1)) | (go_at_call 20; go_must (refine (xh _ 13 _).mono ?_; rintro e w2 ⟨rfl, rfl⟩)))
      go_roundw
      case rel => exact ⟨j + 1, by omega, by go_num, by rw [HN.out], HR1, HG1⟩
      case measure => simp [intOf]; omega
    · have hj1 : ((j : Int) == 0) = false := by simpa using hj0
      clear HZ hj0
      go_wp2_with (first | (go_at_call 34; go_must (refine (zw rb s (p + j) _ HRJ.out (by omega) hs).mono ?_; rintro e w1 ⟨rfl, hR1, hg1⟩; rw [HBE.out]; have HR1 := Aside0.mk hR1; have HG1 := Aside0.mk (HGJ.out.trans hg1); clear hR1 hg1)) | (go_at_call 20; go_must (refine (xh _ 13 _).mono ?_; rintro e w2 ⟨rfl, rfl⟩)))
      go_roundw
      case rel => exact ⟨j + 1, by omega, by go_num, by rw [HN.out], HR1, HG1⟩
      case measure => simp [intOf]; omega
  · have e1 : decide ((j : Int) < (n : Int)) = false := decide_eq_false (by omega)
    have e2 : decide (j < n) = false := decide_eq_false hlt
    obtain rfl : j = n := by omega
    obtain ⟨u0, u1⟩ := beR_bd s t p j;have e3 : decide (9223372036854775807 < beR s t j p) = false := decide_eq_false (by omega);have HX := HX;generalize beR s t j p = u at *;clear u1
    have eu : IntKind.i64.wrap u = u := by simp [IntKind.wrap, IntKind.signed, IntKind.bits]; omega
    have eu2 : wrap64 u = u := by unfold wrap64; omega
    have HH : Aside0 (wr.heap[w.heap.size]? = some (.cells #[.int .i64 0, .int .i64 0, .string ⟨#[]⟩] 42 (0, 0))) := ⟨new3 hrb HGJ.out⟩;obtain ⟨hc0, hc1, hc2, hf0, hf1, hf2⟩ := new3c HH.out
    rcases HT.out with rfl | rfl
    · have hx2 := HX.out
      rw [if_pos rfl] at hx2;subst hx2
      go_wp2_with (first | (go_at_call 20; go_must (refine (xh _ 10 _).mono ?_; rintro e w2 ⟨rfl, rfl⟩)))
      obtain ⟨E0, E1, E2⟩ := end3 (Nat.le_refl _) hrb HRJ.out (z7 HGJ.out) (.int .i64 2) (.int .i64 u) (.string ⟨#[]⟩) HH.out;refine bodyPost_ret (results_cell_row rfl _ _ w.heap.size 42 _ (0, 0) _ rfl E0 Tryz.underlying42 rfl (by kernel_rfl)) rfl ?_
      exact ⟨rfl, E1, E2⟩
    · have hx2 := HX.out
      rw [if_neg (by decide)] at hx2;subst hx2
      have hnot : Go.bits .xor .i64 (-1) u = -1 - u := by
       obtain ⟨m, rfl⟩ := Int.eq_ofNat_of_zero_le u0;rw [Lib.i64_not m (by omega)]
       omega
      go_wp2_with (first | (go_at_call 20; go_must (refine (xh _ 10 _).mono ?_; rintro e w2 ⟨rfl, rfl⟩)))
      obtain ⟨E0, E1, E2⟩ := end3 (Nat.le_refl _) hrb HRJ.out (z7 HGJ.out) (.int .i64 2) (.int .i64 (-1 - u)) (.string ⟨#[]⟩) HH.out;refine bodyPost_ret (results_cell_row rfl _ _ w.heap.size 42 _ (0, 0) _ rfl E0 Tryz.underlying42 rfl (by kernel_rfl)) rfl ?_
      exact ⟨rfl, E1, E2⟩
set_option maxHeartbeats 4000000 in
set_option maxRecDepth 100000 in
theorem int_bad10 (rb : Nat) (s : ByteArray) (p n : Nat) (t : Int) (w : World) (hR : Rd w rb s p) (hs : s.size ≤ 1000000000) (hn : n ≤ 8) (ht : t = 0 ∨ t = 255) (c1 : ¬ s.size < p + n) (c2 : ¬ (0 < n ∧ xb t (bt s (p : Int)) = 0)) (c3 : 9223372036854775807 < beR s t n p) :
 Calls Tryz.prog 35 #[.pointer (some ⟨rb, 0, none⟩), .int .i64 (n : Int), .int .u8 t] w fun e w' => e = .panicked (brokenV 10) ∧ w.grownBy w' (some rb) := by
 have hrb := qK hR;have h0 := hR.c0;have h1 := hR.c1;have HR := Aside0.mk hR;have HT := Aside0.mk ht;have HC2 := Aside0.mk c2;clear hR c2;have d1 : decide ((s.size : Int) - (p : Int) < (n : Int)) = false := decide_eq_false (by omega)
 go_enter Tryz.func35, Tryz.ntmps35
 go_wp2_with fail
 go_quiet (first | (go_at_call 20; exact Calls.quiet_of_same (xh _ 11 _)))
 go_wp2
 go_loopw [7, 26] (fun v7 v26 wr => ∃ (j : Nat), j ≤ n ∧ v26 = .int .i64 (j : Int) ∧ v7 = .int .u64 (beR s t j p) ∧ Aside0 (Rd wr rb s (p + j)) ∧ Aside0 ((w.alloc (.cells #[.int .i64 0, .int .i64 0, .string ⟨#[]⟩] 42)).grownBy wr (some rb))) (fun _ v26 _ => n - (intOf v26).toNat)
 case atStart => exact ⟨0, Nat.zero_le _, rfl, rfl, ⟨qc (qb HR.out _) _⟩, ⟨zd (q8 (Below.refl _ _) _) _⟩⟩
 case round =>
  clear h0 h1;obtain ⟨j, hj, rfl, rfl, HRJ, HGJ⟩ := hrel
  by_cases hlt : j < n
  · have e1 : decide ((j : Int) < (n : Int)) = true := decide_eq_true (by omega)
    have e2 : decide (j < n) = true := decide_eq_true hlt;obtain ⟨u0, u1⟩ := beR_bd s t p j
    have hu7 : beR s t j p < 72057594037927936 := by
     have : (256 : Int) ^ j ≤ 256 ^ 7 := by
      have hj' : j = 0 ∨ j = 1 ∨ j = 2 ∨ j = 3 ∨ j = 4 ∨ j = 5 ∨ j = 6 ∨ j = 7 := by omega
      rcases hj' with rfl | rfl | rfl | rfl | rfl | rfl | rfl | rfl <;> decide
     omega
    have hb := zG s ((p + j : Nat) : Int);obtain ⟨b0, b1⟩ := turnB_bd t _ hb;have hx := xor8 t _ HT.out hb;have hor := or256 (beR s t j p) (xb t (bt s ((p + j : Nat) : Int))) u0 hu7 ⟨b0, b1⟩;have HN : Aside0 (beR s t (j + 1) p = beR s t j p * 256 + xb t (bt s ((p + j : Nat) : Int))) := ⟨rfl⟩
    have HZ : j = 0 → ¬ xb t (bt s ((p + j : Nat) : Int)) = 0 := by
     rintro rfl h
     exact HC2.out ⟨by omega, h⟩
    obtain ⟨b, hbe⟩ : ∃ b, bt s ((p + j : Nat) : Int) = b := ⟨_, rfl⟩;rw [hbe] at hx hor HN HZ b0 b1 hb;have HBE := Aside0.mk hbe;clear hbe;generalize xb t b = c at *;generalize beR s t j p = u at *;clear u1;obtain ⟨g0, g1⟩ := hb
    by_cases hj0 : j = 0
    · have hc0 : (c == 0) = false := by simpa using HZ hj0
      have hj1 : ((j : Int) == 0) = true := by simpa using hj0
      clear HZ hj0
      go_wp2_with (first | (go_at_call 34; go_must (refine (zw rb s (p + j) _ HRJ.out (by omega) hs).mono ?_; rintro e w1 ⟨rfl, hR1, hg1⟩; rw [HBE.out]; have HR1 := Aside0.mk hR1; have HG1 := Aside0.mk (HGJ.out.trans hg1); clear hR1 hg1)) | (go_at_call 20; go_must (refine (xh _ 13 _).mono ?_; rintro e w2 ⟨rfl, rfl⟩)))
      go_roundw
      case rel => exact ⟨j + 1, by omega, by go_num, by rw [HN.out], HR1, HG1⟩
      case measure => simp [intOf]; omega
    · have hj1 : ((j : Int) == 0) = false := by simpa using hj0
      clear HZ hj0
      go_wp2_with (first | (go_at_call 34; go_must (refine (zw rb s (p + j) _ HRJ.out (by omega) hs).mono ?_; rintro e w1 ⟨rfl, hR1, hg1⟩; rw [HBE.out]; have HR1 := Aside0.mk hR1; have HG1 := Aside0.mk (HGJ.out.trans hg1); clear hR1 hg1)) | (go_at_call 20; go_must (refine (xh _ 13 _).mono ?_; rintro e w2 ⟨rfl, rfl⟩)))
      go_roundw
      case rel => exact ⟨j + 1, by omega, by go_num, by rw [HN.out], HR1, HG1⟩
      case measure => simp [intOf]; omega
  · have e1 : decide ((j : Int) < (n : Int)) = false := decide_eq_false (by omega)
    have e2 : decide (j < n) = false := decide_eq_false hlt
    obtain rfl : j = n := by omega
    obtain ⟨u0, u1⟩ := beR_bd s t p j;have e3 : decide (9223372036854775807 < beR s t j p) = true := decide_eq_true c3;generalize beR s t j p = u at *;clear u1
    go_wp2_with (first | (go_at_call 20; go_must (refine (xG _ 10 _).mono ?_; rintro e w2 ⟨rfl, rfl⟩)))
    exact ⟨rfl, rfl, z7 HGJ.out⟩
set_option maxHeartbeats 4000000 in
set_option maxRecDepth 100000 in
theorem int_bad (rb : Nat) (s : ByteArray) (p n : Nat) (t er : Int) (w : World) (hR : Rd w rb s p) (hs : s.size ≤ 1000000000) (hp : p ≤ s.size) (hn : n ≤ 8) (ht : t = 0 ∨ t = 255) (hc : intR s p n t = .error er) :
 Calls Tryz.prog 35 #[.pointer (some ⟨rb, 0, none⟩), .int .i64 (n : Int), .int .u8 t] w fun e w' => e = .panicked (brokenV er) ∧ w.grownBy w' (some rb) := by
 unfold intR at hc;have HT := Aside0.mk ht;have hrb := qK hR;have h0 := hR.c0;have h1 := hR.c1;have HR := Aside0.mk hR;clear hR
 by_cases c1 : s.size < p + n
 · rw [if_pos c1] at hc
   injection hc with hc
   subst hc;have d1 : decide ((s.size : Int) - (p : Int) < (n : Int)) = true := decide_eq_true (by omega)
   go_enter Tryz.func35, Tryz.ntmps35
   have hwr : decide (IntKind.i64.wrap ((s.size : Int) - (p : Int)) < (n : Int)) = true := by
    rw [show IntKind.i64.wrap ((s.size : Int) - (p : Int)) = (s.size : Int) - (p : Int) from by simp [IntKind.wrap, IntKind.signed, IntKind.bits]; omega]
    exact d1
   go_wp2_with fail
   go_region_dies
   all_goals (refine (xG _ 11 _).mono ?_; rintro e w' ⟨rfl, rfl⟩)
   all_goals exact ⟨rfl, rfl, zd (zP (qa (Below.refl _ _) _)) _⟩
 rw [if_neg c1] at hc
 by_cases c2 : 0 < n ∧ xb t (bt s (p : Int)) = 0
 case neg =>
  rw [if_neg c2] at hc
  by_cases c3 : 9223372036854775807 < beR s t n p
  case neg => rw [if_neg c3] at hc; cases hc
  rw [if_pos c3] at hc
  injection hc with hc
  subst hc
  exact int_bad10 rb s p n t w HR.out hs hn ht c1 c2 c3
 rw [if_pos c2] at hc
 injection hc with hc
 subst hc;have HC2 := Aside0.mk c2;clear c2;have d1 : decide ((s.size : Int) - (p : Int) < (n : Int)) = false := decide_eq_false (by omega)
 go_enter Tryz.func35, Tryz.ntmps35
 go_wp2_with fail
 go_quiet (first | (go_at_call 20; exact Calls.quiet_of_same (xh _ 11 _)))
 go_wp2
 go_loopw [7, 26] (fun v7 v26 wr => ∃ (j : Nat), j = 0 ∧ v26 = .int .i64 (j : Int) ∧ v7 = .int .u64 (beR s t j p) ∧ Aside0 (Rd wr rb s (p + j)) ∧ Aside0 ((w.alloc (.cells #[.int .i64 0, .int .i64 0, .string ⟨#[]⟩] 42)).grownBy wr (some rb))) (fun _ v26 _ => n - (intOf v26).toNat)
 case atStart => exact ⟨0, rfl, rfl, rfl, ⟨qc (qb HR.out _) _⟩, ⟨zd (q8 (Below.refl _ _) _) _⟩⟩
 case round =>
  clear h0 h1;obtain ⟨j, hj0, rfl, rfl, HRJ, HGJ⟩ := hrel
  have hlt : j < n := by have := HC2.out.1; omega
  have e1 : decide ((j : Int) < (n : Int)) = true := decide_eq_true (by omega);have e2 : decide (j < n) = true := decide_eq_true hlt;have hb := zG s ((p + j : Nat) : Int);have hx := xor8 t _ HT.out hb
  have hz : xb t (bt s ((p + j : Nat) : Int)) = 0 := by subst hj0; exact HC2.out.2
  have hor := or256 0 0 (by decide) (by decide) (by decide);obtain ⟨b, hbe⟩ : ∃ b, bt s ((p + j : Nat) : Int) = b := ⟨_, rfl⟩;rw [hbe] at hx hz hb;rw [hz] at hx;have HBE := Aside0.mk hbe;clear hbe hz;obtain ⟨g0, g1⟩ := hb
  have hbr : beR s t j p = 0 := by subst hj0; rfl
  rw [hbr];clear hbr
  have hj1 : ((j : Int) == 0) = true := by simpa using hj0
  have hc0 : ((0 : Int) == 0) = true := rfl;clear hj0
  go_wp2_with (first | (go_at_call 34; go_must (refine (zw rb s (p + j) _ HRJ.out (by omega) hs).mono ?_; rintro e w1 ⟨rfl, hR1, hg1⟩; rw [HBE.out]; have HR1 := Aside0.mk hR1; have HG1 := Aside0.mk (HGJ.out.trans hg1); clear hR1 hg1)) | (go_at_call 20; go_must (refine (xG _ 13 _).mono ?_; rintro e w2 ⟨rfl, rfl⟩)))
  exact ⟨rfl, rfl, z7 HG1.out⟩
def escR (s : ByteArray) : Nat → Nat → List Int → Except Int (S42 × Nat)
 | 0, _, _ => .error 11
 | n + 1, p, xs =>
  if s.size ≤ p then .error 11
  else if bt s (p : Int) = 0 then
   (if s.size ≤ p + 1 then .error 11
    else if bt s ((p + 1 : Nat) : Int) = 1 then .ok (⟨3, 0, strOfNums xs⟩, p + 2)
    else if bt s ((p + 1 : Nat) : Int) = 255 then (if xs.length = 4096 then .error 4 else escR s n (p + 2) (xs ++ [0]))
    else .error 15)
  else if xs.length = 4096 then .error 4
  else escR s n (p + 1) (xs ++ [bt s (p : Int)])
theorem escR_short (s : ByteArray) (n p : Nat) (xs : List Int) (h : s.size ≤ p) : escR s n p xs = .error 11 := by
 cases n with
 | zero => rfl
 | succ n => rw [escR, if_pos h]
def kvOut (w : World) (rb : Nat) (s : ByteArray) (R : Except Int (S42 × Nat)) (e : Ending) (w' : World) : Prop := w.grownBy w' (some rb) ∧ match R with
 | .ok (x, q) => e = .returned (valV x) ∧ Rd w' rb s q
 | .error why => e = .panicked (brokenV why)
def posOf (W : World) (rb : Nat) : Nat := match W.cell? ⟨rb, 1, none⟩ with
 | some (.int _ n) => n.toNat
 | _ => 0
theorem posOf_eq {W : World} {rb p : Nat} {s : ByteArray} (h : Rd W rb s p) : posOf W rb = p := by
 unfold posOf;rw [h.c1]
 simp
theorem reads_one (W : World) (x : Int) (e : Nat) : xV (W.alloc (.cells #[.int .u8 x] e)) .u8 (some ⟨W.heap.size, 0, none⟩) 1 [x] := by
 refine ⟨rfl, by omega, fun _ => ⟨_, rfl, fun j hj => ?_⟩⟩;rw [add_plain]
 have : j = 0 := by omega
 subst this
 simp [World.cell?_alloc_new]
set_option maxHeartbeats 4000000 in
set_option maxRecDepth 100000 in
theorem esc_calls (rb : Nat) (s : ByteArray) (p0 n0 : Nat) (w : World) (R : Except Int (S42 × Nat)) (hR : Rd w rb s p0) (hs : s.size ≤ 1000000000) (hn : s.size < p0 + n0) (h : escR s n0 p0 [] = R) :
 Calls Tryz.prog 36 #[.pointer (some ⟨rb, 0, none⟩)] w fun e w' => kvOut w rb s R e w' := by
 have hrb := qK hR;have HR := Aside0.mk hR;have HH0 := Aside0.mk h;clear hR h
 go_enter Tryz.func36, Tryz.ntmps36
 go_wp2
 go_loopw [3] (fun v3 wr => ∃ (p n : Nat) (xs : List Int), s.size < p + n ∧ xs.length ≤ 4096 ∧ Aside0 (escR s n p xs = R) ∧ Aside0 (Rd wr rb s p) ∧ Aside0 (Bt (w.alloc (.cells #[.int .i64 0, .int .i64 0, .string ⟨#[]⟩] 42)) wr rb v3 xs)) (fun _ wr => s.size - posOf wr rb)
 case atStart => exact ⟨p0, n0, [], hn, by simp, HH0, ⟨qb HR.out _⟩, ⟨⟨own_nil _ _ _ _, zd (Below.refl _ _) _⟩⟩⟩
 case round =>
  clear HH0 HR hn;obtain ⟨p, n, xs, hn, hxl, HE, HRJ, HBS⟩ := hrel;obtain ⟨A, cap, rfl, hread⟩ := own_reads HBS.out.1;clear hread
  by_cases hp : p < s.size
  case neg =>
   have hE := HE.out;rw [escR_short s n p xs (by omega)] at hE;subst hE
   go_wp2_with (first | (go_at_call 34; go_must (refine (next_short rb s p _ HRJ.out (by omega)).mono ?_; rintro e w1 ⟨rfl, hg1⟩; have HG1 := Aside0.mk (z7 (HBS.out.2.trans hg1)); clear hg1)))
   exact ⟨rfl, HG1.out, rfl⟩
  obtain ⟨m, rfl⟩ : ∃ m, n = m + 1 := ⟨n - 1, by omega⟩;have hE := HE.out;rw [escR, if_neg (by omega)] at hE;clear HE;obtain ⟨b, hb⟩ : ∃ b, bt s (p : Int) = b := ⟨_, rfl⟩;have hb2 := zG s (p : Int);rw [hb] at hb2 hE;have HB := Aside0.mk hb;obtain ⟨b0, b1⟩ := hb2;clear hb
  by_cases hz : b = 0
  · rw [if_pos hz] at hE
    have z1 : (b == 0) = true := by simpa using hz
    by_cases hp1 : p + 1 < s.size
    case neg =>
     rw [if_pos (by omega)] at hE;subst hE
     go_wp2_with (first
      | (have hguard := HRJ; clear hguard; go_at_call 34; go_must (refine (zw rb s p _ HRJ.out hp hs).mono ?_; rintro e w1 ⟨rfl, hR1, hg1⟩; rw [HB.out]; have HR1 := Aside0.mk hR1; have HB1 := Aside0.mk (HBS.out.grownR HRJ.out hg1); clear HRJ hR1 hg1))
      | (go_at_call 34; go_must (refine (next_short rb s (p + 1) _ HR1.out (by omega)).mono ?_; rintro e w2 ⟨rfl, hg2⟩; have HG2 := Aside0.mk (z7 (HB1.out.2.trans hg2)); clear hg2)))
     exact ⟨rfl, HG2.out, rfl⟩
    rw [if_neg (by omega)] at hE;obtain ⟨c, hc⟩ : ∃ c, bt s ((p + 1 : Nat) : Int) = c := ⟨_, rfl⟩;have hc2 := zG s ((p + 1 : Nat) : Int);rw [hc] at hc2 hE;have HC := Aside0.mk hc;obtain ⟨c0, c1⟩ := hc2;clear hc
    by_cases k1 : c = 1
    · rw [if_pos k1] at hE
      subst hE
      have y1 : (c == 1) = true := by simpa using k1
      go_wp2_with (first
       | (have hguard := HRJ; clear hguard; go_at_call 34; go_must (refine (zw rb s p _ HRJ.out hp hs).mono ?_; rintro e w1 ⟨rfl, hR1, hg1⟩; rw [HB.out]; have HR1 := Aside0.mk hR1; have HB1 := Aside0.mk (HBS.out.grownR HRJ.out hg1); clear HRJ hR1 hg1))
       | (go_at_call 34; go_must (refine (zw rb s (p + 1) _ HR1.out hp1 hs).mono ?_; rintro e w2 ⟨rfl, hR2, hg2⟩; rw [HC.out]; have HR2 := Aside0.mk hR2; have HB2 := Aside0.mk (HB1.out.grownR HR1.out hg2); have HH := Aside0.mk (new3 hrb HB2.out.2); obtain ⟨hc0, hc1, hc2, hf0, hf1, hf2⟩ := new3c HH.out; have hcv := zA (P := Tryz.prog) (src := 76) (dst := 9) Tryz.underlying76 Tryz.underlying5 Tryz.underlying9 HB2.out.1; clear HR1 hR2 hg2)))
      obtain ⟨E0, E1, E2⟩ := end3 (Nat.le_refl _) hrb HR2.out (z7 HB2.out.2) (.int .i64 3) (.int .i64 0) (.string (strOfNums xs)) HH.out;refine bodyPost_ret (results_cell_row rfl _ _ w.heap.size 42 _ (0, 0) _ rfl E0 Tryz.underlying42 rfl (by kernel_rfl)) rfl ?_
      exact ⟨E2, rfl, E1⟩
    rw [if_neg k1] at hE
    have y1 : (c == 1) = false := by simpa using k1
    by_cases k2 : c = 255
    · rw [if_pos k2] at hE
      have y2 : (c == 255) = true := by simpa using k2
      by_cases hl : xs.length = 4096
      · rw [if_pos hl] at hE
        subst hE
        have l1 : ((xs.length : Int) == 4096) = true := by simp; omega
        go_wp2_with (first
         | (have hguard := HRJ; clear hguard; go_at_call 34; go_must (refine (zw rb s p _ HRJ.out hp hs).mono ?_; rintro e w1 ⟨rfl, hR1, hg1⟩; rw [HB.out]; have HR1 := Aside0.mk hR1; have HB1 := Aside0.mk (HBS.out.grownR HRJ.out hg1); clear HRJ hR1 hg1))
         | (have hguard := HR1; clear hguard; go_at_call 34; go_must (refine (zw rb s (p + 1) _ HR1.out hp1 hs).mono ?_; rintro e w2 ⟨rfl, hR2, hg2⟩; rw [HC.out]; have HR2 := Aside0.mk hR2; have HB2 := Aside0.mk (HB1.out.grownR HR1.out hg2); clear HR1 hR2 hg2))
         | (go_at_call 20; go_must (refine (xG _ 4 _).mono ?_; rintro e w3 ⟨rfl, rfl⟩)))
        exact ⟨rfl, z7 HB2.out.2, rfl⟩
      · rw [if_neg hl] at hE
        have HE := Aside0.mk hE;clear hE;have HPOS := Aside0.mk (posOf_eq HRJ.out)
        have l1 : ((xs.length : Int) == 4096) = false := by simp; omega
        go_wp2_with (first
         | (have hguard := HRJ; clear hguard; go_at_call 34; go_must (refine (zw rb s p _ HRJ.out hp hs).mono ?_; rintro e w1 ⟨rfl, hR1, hg1⟩; rw [HB.out]; have HR1 := Aside0.mk hR1; have HB1 := Aside0.mk (HBS.out.grownR HRJ.out hg1); clear HRJ hR1 hg1))
         | (have hguard := HR1; clear hguard; go_at_call 34; go_must (refine (zw rb s (p + 1) _ HR1.out hp1 hs).mono ?_; rintro e w2 ⟨rfl, hR2, hg2⟩; rw [HC.out]; have HR2 := Aside0.mk hR2; have HB2 := Aside0.mk (HB1.out.grownR HR1.out hg2); clear HR1 hR2 hg2))
         | (go_at_call 20; go_must (refine (xh _ 4 _).mono ?_; rintro e w3 ⟨rfl, rfl⟩))
         | ((with_reducible refine qQ (b := .append) (xs := #[.tmp 25, .tmp 27]) rfl ?_); at_builtin; refine Bt.row rfl (.tmp 25) (.tmp 27) 76 rfl Tryz.underlying76 zV (.slice A xs.length cap) xs [0] (some ⟨w3.heap.size, 0, none⟩) 1 1 rfl rfl (reads_one w3 _ 5) (HB2.out.alloc _) (by omega) ?_; intro v1 w4 h1 hk; have H1 := Aside0.mk h1; have HR3 := Aside0.mk (HR2.out.kept hk.alloc); clear h1 hk))
        go_roundw
        case rel => exact ⟨p + 1 + 1, m, xs ++ [0], by omega, by simp; omega, HE, HR3, H1⟩
        case measure => rw [posOf_eq HR3.out, HPOS.out]; omega
    · rw [if_neg k2] at hE
      subst hE
      have y2 : (c == 255) = false := by simpa using k2
      go_wp2_with (first
       | (have hguard := HRJ; clear hguard; go_at_call 34; go_must (refine (zw rb s p _ HRJ.out hp hs).mono ?_; rintro e w1 ⟨rfl, hR1, hg1⟩; rw [HB.out]; have HR1 := Aside0.mk hR1; have HB1 := Aside0.mk (HBS.out.grownR HRJ.out hg1); clear HRJ hR1 hg1))
       | (have hguard := HR1; clear hguard; go_at_call 34; go_must (refine (zw rb s (p + 1) _ HR1.out hp1 hs).mono ?_; rintro e w2 ⟨rfl, hR2, hg2⟩; rw [HC.out]; have HR2 := Aside0.mk hR2; have HB2 := Aside0.mk (HB1.out.grownR HR1.out hg2); clear HR1 hR2 hg2))
       | (go_at_call 20; go_must (refine (xG _ 15 _).mono ?_; rintro e w3 ⟨rfl, rfl⟩)))
      exact ⟨rfl, z7 HB2.out.2, rfl⟩
  · rw [if_neg hz] at hE
    have z1 : (b == 0) = false := by simpa using hz
    by_cases hl : xs.length = 4096
    · rw [if_pos hl] at hE
      subst hE
      have l1 : ((xs.length : Int) == 4096) = true := by simp; omega
      go_wp2_with (first
       | (have hguard := HRJ; clear hguard; go_at_call 34; go_must (refine (zw rb s p _ HRJ.out hp hs).mono ?_; rintro e w1 ⟨rfl, hR1, hg1⟩; rw [HB.out]; have HR1 := Aside0.mk hR1; have HB1 := Aside0.mk (HBS.out.grownR HRJ.out hg1); clear HRJ hR1 hg1))
       | (go_at_call 20; go_must (refine (xG _ 4 _).mono ?_; rintro e w2 ⟨rfl, rfl⟩)))
      exact ⟨rfl, z7 HB1.out.2, rfl⟩
    · rw [if_neg hl] at hE
      have HE := Aside0.mk hE;clear hE
      have l1 : ((xs.length : Int) == 4096) = false := by simp; omega
      go_wp2_with (first
       | (have hguard := HRJ; clear hguard; go_at_call 34; go_must (refine (zw rb s p _ HRJ.out hp hs).mono ?_; rintro e w1 ⟨rfl, hR1, hg1⟩; rw [HB.out]; have HR1 := Aside0.mk hR1; have HB1 := Aside0.mk (HBS.out.grownR HRJ.out hg1); clear hR1 hg1))
       | (go_at_call 20; go_must (refine (xh _ 4 _).mono ?_; rintro e w2 ⟨rfl, rfl⟩))
       | ((with_reducible refine qQ (b := .append) (xs := #[.tmp 25, .tmp 27]) rfl ?_); at_builtin; refine Bt.row rfl (.tmp 25) (.tmp 27) 76 rfl Tryz.underlying76 zV (.slice A xs.length cap) xs [b] (some ⟨w2.heap.size, 0, none⟩) 1 1 rfl rfl (reads_one w2 _ 5) (HB1.out.alloc _) (by omega) ?_; intro v1 w3 h1 hk; have H1 := Aside0.mk h1; have HR3 := Aside0.mk (HR1.out.kept hk.alloc); clear h1 hk))
      go_roundw
      case rel => exact ⟨p + 1, m, xs ++ [b], by omega, by simp; omega, HE, HR3, H1⟩
      case measure => rw [posOf_eq HR3.out, posOf_eq HRJ.out]; omega
def valK (s : ByteArray) (p : Nat) : Except Int (S42 × Nat) :=
 if s.size ≤ p then .error 11
 else if bt s (p : Int) = 16 then .ok (⟨0, 0, ⟨#[]⟩⟩, p + 1)
 else if bt s (p : Int) = 32 ∨ bt s (p : Int) = 33 then .ok (⟨1, bt s (p : Int) - 32, ⟨#[]⟩⟩, p + 1)
 else if 56 ≤ bt s (p : Int) ∧ bt s (p : Int) ≤ 64 then intR s (p + 1) (bt s (p : Int) - 56).toNat 0
 else if bt s (p : Int) < 56 ∧ 47 ≤ bt s (p : Int) then intR s (p + 1) (55 - bt s (p : Int)).toNat 255
 else if bt s (p : Int) = 80 then escR s (s.size - p) (p + 1) []
 else .error 14
theorem int_calls (rb : Nat) (s : ByteArray) (p n : Nat) (t : Int) (w : World) (R : Except Int (S42 × Nat)) (hR : Rd w rb s p) (hs : s.size ≤ 1000000000) (hp : p ≤ s.size) (hn : n ≤ 8) (ht : t = 0 ∨ t = 255) (hc : intR s p n t = R) :
 Calls Tryz.prog 35 #[.pointer (some ⟨rb, 0, none⟩), .int .i64 (n : Int), .int .u8 t] w fun e w' => kvOut w rb s R e w' := by
 rcases R with er | ⟨x, q⟩
 · exact (int_bad rb s p n t er w hR hs hp hn ht hc).mono fun e w' h => ⟨h.2, h.1⟩
 · exact (int_ok rb s p n q t x w hR hs hn ht hc).mono fun e w' h => ⟨h.2.2, h.1, h.2.1⟩
set_option maxHeartbeats 4000000 in
set_option maxRecDepth 100000 in
theorem val_calls (rb : Nat) (s : ByteArray) (p : Nat) (w : World) (R : Except Int (S42 × Nat)) (hR : Rd w rb s p) (hs : s.size ≤ 1000000000) (h : valK s p = R) :
 Calls Tryz.prog 21 #[.pointer (some ⟨rb, 0, none⟩)] w fun e w' => kvOut w rb s R e w' := by
 have hrb := qK hR;have HR := Aside0.mk hR;clear hR;unfold valK at h
 by_cases hp : p < s.size
 case neg =>
  rw [if_pos (by omega)] at h;subst h
  go_enter Tryz.func21, Tryz.ntmps21
  go_wp2_with (first | (go_at_call 34; go_must (refine (next_short rb s p _ (qb HR.out _) (by omega)).mono ?_; rintro e w1 ⟨rfl, hg1⟩; have HG1 := Aside0.mk (z7 hg1); clear hg1)))
  exact ⟨rfl, HG1.out, rfl⟩
 rw [if_neg (by omega)] at h;obtain ⟨c, hc⟩ : ∃ c, bt s (p : Int) = c := ⟨_, rfl⟩;have hc2 := zG s (p : Int);rw [hc] at hc2 h;have HC := Aside0.mk hc;obtain ⟨b0, b1⟩ := hc2;clear hc
 by_cases k1 : c = 16
 · rw [if_pos k1] at h
   subst h;subst k1
   go_enter Tryz.func21, Tryz.ntmps21
   go_wp2_with (first | (go_at_call 34; go_must (refine (zw rb s p _ (qb HR.out _) hp hs).mono ?_; rintro e w1 ⟨rfl, hR1, hg1⟩; rw [HC.out]; have HR1 := Aside0.mk hR1; have HG1 := Aside0.mk hg1; have HH := Aside0.mk (new3 hrb hg1); obtain ⟨hc0, hc1, hc2, hf0, hf1, hf2⟩ := new3c HH.out; clear hR1 hg1)))
   obtain ⟨E0, E1, E2⟩ := end3 (Nat.le_refl _) hrb HR1.out (z7 HG1.out) (.int .i64 0) (.int .i64 0) (.string ⟨#[]⟩) HH.out;refine bodyPost_ret (results_cell_row rfl _ _ w.heap.size 42 _ (0, 0) _ rfl E0 Tryz.underlying42 rfl (by kernel_rfl)) rfl ?_
   exact ⟨E2, rfl, E1⟩
 rw [if_neg k1] at h
 by_cases k2 : c = 32 ∨ c = 33
 · rw [if_pos k2] at h
   subst h
   rcases k2 with rfl | rfl
   · go_enter Tryz.func21, Tryz.ntmps21
     go_wp2_with (first | (go_at_call 34; go_must (refine (zw rb s p _ (qb HR.out _) hp hs).mono ?_; rintro e w1 ⟨rfl, hR1, hg1⟩; rw [HC.out]; have HR1 := Aside0.mk hR1; have HG1 := Aside0.mk hg1; have HH := Aside0.mk (new3 hrb hg1); obtain ⟨hc0, hc1, hc2, hf0, hf1, hf2⟩ := new3c HH.out; clear hR1 hg1)))
     obtain ⟨E0, E1, E2⟩ := end3 (Nat.le_refl _) hrb HR1.out (z7 HG1.out) (.int .i64 1) (.int .i64 0) (.string ⟨#[]⟩) HH.out;refine bodyPost_ret (results_cell_row rfl _ _ w.heap.size 42 _ (0, 0) _ rfl E0 Tryz.underlying42 rfl (by kernel_rfl)) rfl ?_
     exact ⟨E2, rfl, E1⟩
   · go_enter Tryz.func21, Tryz.ntmps21
     go_wp2_with (first | (go_at_call 34; go_must (refine (zw rb s p _ (qb HR.out _) hp hs).mono ?_; rintro e w1 ⟨rfl, hR1, hg1⟩; rw [HC.out]; have HR1 := Aside0.mk hR1; have HG1 := Aside0.mk hg1; have HH := Aside0.mk (new3 hrb hg1); obtain ⟨hc0, hc1, hc2, hf0, hf1, hf2⟩ := new3c HH.out; clear hR1 hg1)))
     obtain ⟨E0, E1, E2⟩ := end3 (Nat.le_refl _) hrb HR1.out (z7 HG1.out) (.int .i64 1) (.int .i64 1) (.string ⟨#[]⟩) HH.out;refine bodyPost_ret (results_cell_row rfl _ _ w.heap.size 42 _ (0, 0) _ rfl E0 Tryz.underlying42 rfl (by kernel_rfl)) rfl ?_
     exact ⟨E2, rfl, E1⟩
 rw [if_neg k2] at h
 have f1 : (c == 16) = false := by simpa using k1
 have f2 : (c == 32) = false := by simp; omega
 have f3 : (c == 33) = false := by simp; omega
 by_cases k3 : 56 ≤ c ∧ c ≤ 64
 · rw [if_pos k3] at h
   have d1 : decide (56 ≤ c) = true := decide_eq_true k3.1;have d2 : decide (c ≤ 64) = true := decide_eq_true k3.2;obtain ⟨n, hn⟩ : ∃ n, (c - 56).toNat = n := ⟨_, rfl⟩;rw [hn] at h
   have hsub : c - 56 = (n : Int) := by omega
   have hn8 : n ≤ 8 := by omega
   have HI := Aside0.mk h;clear h hn k1 k2 k3
   rcases R with er | ⟨x, q⟩
   · go_enter Tryz.func21, Tryz.ntmps21
     go_wp2_with (first
      | (go_at_call 34; go_must (refine (zw rb s p _ (qb HR.out _) hp hs).mono ?_; rintro e w1 ⟨rfl, hR1, hg1⟩; rw [HC.out]; have HR1 := Aside0.mk hR1; have HG1 := Aside0.mk hg1; clear hR1 hg1))
      | (go_at_call 35; go_must (refine (int_calls rb s (p + 1) n 0 _ _ HR1.out hs (by omega) hn8 (.inl rfl) HI.out).mono ?_; rintro e w2 ⟨hg2, rfl⟩; have HG2 := Aside0.mk (HG1.out.trans hg2); clear hg2)))
     exact ⟨rfl, z7 HG2.out, rfl⟩
   · go_enter Tryz.func21, Tryz.ntmps21
     go_wp2_with (first
      | (go_at_call 34; go_must (refine (zw rb s p _ (qb HR.out _) hp hs).mono ?_; rintro e w1 ⟨rfl, hR1, hg1⟩; rw [HC.out]; have HR1 := Aside0.mk hR1; have HG1 := Aside0.mk hg1; clear hR1 hg1))
      | (go_at_call 35; go_must (refine (int_calls rb s (p + 1) n 0 _ _ HR1.out hs (by omega) hn8 (.inl rfl) HI.out).mono ?_; rintro e w2 ⟨hg2, rfl, hR2⟩; rw [show valV x = .agg #[.int .i64 x.f0, .int .i64 x.f1, .string x.f2] from rfl]; have HR2 := Aside0.mk hR2; have HG2 := Aside0.mk (HG1.out.trans hg2); have HH := Aside0.mk (new3 hrb HG2.out); obtain ⟨hc0, hc1, hc2, hf0, hf1, hf2⟩ := new3c HH.out; clear hg2 hR2)))
     obtain ⟨E0, E1, E2⟩ := end3 (Nat.le_refl _) hrb HR2.out (z7 HG2.out) (.int .i64 x.f0) (.int .i64 x.f1) (.string x.f2) HH.out;refine bodyPost_ret (results_cell_row rfl _ _ w.heap.size 42 _ (0, 0) _ rfl E0 Tryz.underlying42 rfl (by kernel_rfl)) rfl ?_
     exact ⟨E2, rfl, E1⟩
 rw [if_neg k3] at h
 by_cases k4 : c < 56 ∧ 47 ≤ c
 · rw [if_pos k4] at h
   have d1 : decide (56 ≤ c) = false := decide_eq_false (by omega);have d2 : decide (c < 56) = true := decide_eq_true k4.1;have d3 : decide (47 ≤ c) = true := decide_eq_true k4.2;obtain ⟨n, hn⟩ : ∃ n, (55 - c).toNat = n := ⟨_, rfl⟩;rw [hn] at h
   have hsub : 55 - c = (n : Int) := by omega
   have hn8 : n ≤ 8 := by omega
   have HI := Aside0.mk h;clear h hn k1 k2 k3 k4
   rcases R with er | ⟨x, q⟩
   · go_enter Tryz.func21, Tryz.ntmps21
     go_wp2_with (first
      | (go_at_call 34; go_must (refine (zw rb s p _ (qb HR.out _) hp hs).mono ?_; rintro e w1 ⟨rfl, hR1, hg1⟩; rw [HC.out]; have HR1 := Aside0.mk hR1; have HG1 := Aside0.mk hg1; clear hR1 hg1))
      | (go_at_call 35; go_must (refine (int_calls rb s (p + 1) n 255 _ _ HR1.out hs (by omega) hn8 (.inr rfl) HI.out).mono ?_; rintro e w2 ⟨hg2, rfl⟩; have HG2 := Aside0.mk (HG1.out.trans hg2); clear hg2)))
     exact ⟨rfl, z7 HG2.out, rfl⟩
   · go_enter Tryz.func21, Tryz.ntmps21
     go_wp2_with (first
      | (go_at_call 34; go_must (refine (zw rb s p _ (qb HR.out _) hp hs).mono ?_; rintro e w1 ⟨rfl, hR1, hg1⟩; rw [HC.out]; have HR1 := Aside0.mk hR1; have HG1 := Aside0.mk hg1; clear hR1 hg1))
      | (go_at_call 35; go_must (refine (int_calls rb s (p + 1) n 255 _ _ HR1.out hs (by omega) hn8 (.inr rfl) HI.out).mono ?_; rintro e w2 ⟨hg2, rfl, hR2⟩; rw [show valV x = .agg #[.int .i64 x.f0, .int .i64 x.f1, .string x.f2] from rfl]; have HR2 := Aside0.mk hR2; have HG2 := Aside0.mk (HG1.out.trans hg2); have HH := Aside0.mk (new3 hrb HG2.out); obtain ⟨hc0, hc1, hc2, hf0, hf1, hf2⟩ := new3c HH.out; clear hg2 hR2)))
     obtain ⟨E0, E1, E2⟩ := end3 (Nat.le_refl _) hrb HR2.out (z7 HG2.out) (.int .i64 x.f0) (.int .i64 x.f1) (.string x.f2) HH.out;refine bodyPost_ret (results_cell_row rfl _ _ w.heap.size 42 _ (0, 0) _ rfl E0 Tryz.underlying42 rfl (by kernel_rfl)) rfl ?_
     exact ⟨E2, rfl, E1⟩
 rw [if_neg k4] at h
 by_cases k5 : c = 80
 · rw [if_pos k5] at h
   subst k5;have HI := Aside0.mk h;clear h k1 k2 k3 k4 f1 f2 f3
   rcases R with er | ⟨x, q⟩
   · go_enter Tryz.func21, Tryz.ntmps21
     go_wp2_with (first
      | (go_at_call 34; go_must (refine (zw rb s p _ (qb HR.out _) hp hs).mono ?_; rintro e w1 ⟨rfl, hR1, hg1⟩; rw [HC.out]; have HR1 := Aside0.mk hR1; have HG1 := Aside0.mk hg1; clear hR1 hg1))
      | (go_at_call 36; go_must (refine (esc_calls rb s (p + 1) (s.size - p) _ _ HR1.out hs (by omega) HI.out).mono ?_; rintro e w2 ⟨hg2, rfl⟩; have HG2 := Aside0.mk (HG1.out.trans hg2); clear hg2)))
     exact ⟨rfl, z7 HG2.out, rfl⟩
   · go_enter Tryz.func21, Tryz.ntmps21
     go_wp2_with (first
      | (go_at_call 34; go_must (refine (zw rb s p _ (qb HR.out _) hp hs).mono ?_; rintro e w1 ⟨rfl, hR1, hg1⟩; rw [HC.out]; have HR1 := Aside0.mk hR1; have HG1 := Aside0.mk hg1; clear hR1 hg1))
      | (go_at_call 36; go_must (refine (esc_calls rb s (p + 1) (s.size - p) _ _ HR1.out hs (by omega) HI.out).mono ?_; rintro e w2 ⟨hg2, rfl, hR2⟩; rw [show valV x = .agg #[.int .i64 x.f0, .int .i64 x.f1, .string x.f2] from rfl]; have HR2 := Aside0.mk hR2; have HG2 := Aside0.mk (HG1.out.trans hg2); have HH := Aside0.mk (new3 hrb HG2.out); obtain ⟨hc0, hc1, hc2, hf0, hf1, hf2⟩ := new3c HH.out; clear hg2 hR2)))
     obtain ⟨E0, E1, E2⟩ := end3 (Nat.le_refl _) hrb HR2.out (z7 HG2.out) (.int .i64 x.f0) (.int .i64 x.f1) (.string x.f2) HH.out;refine bodyPost_ret (results_cell_row rfl _ _ w.heap.size 42 _ (0, 0) _ rfl E0 Tryz.underlying42 rfl (by kernel_rfl)) rfl ?_
     exact ⟨E2, rfl, E1⟩
 rw [if_neg k5] at h;subst h
 have f4 : (c == 80) = false := by simpa using k5
 by_cases k6 : c < 47
 · have d1 : decide (56 ≤ c) = false := decide_eq_false (by omega)
   have d2 : decide (c < 56) = true := decide_eq_true (by omega);have d3 : decide (47 ≤ c) = false := decide_eq_false (by omega);clear k1 k2 k3 k4 k5 k6
   go_enter Tryz.func21, Tryz.ntmps21
   go_wp2_with (first
    | (go_at_call 34; go_must (refine (zw rb s p _ (qb HR.out _) hp hs).mono ?_; rintro e w1 ⟨rfl, hR1, hg1⟩; rw [HC.out]; have HR1 := Aside0.mk hR1; have HG1 := Aside0.mk hg1; clear hR1 hg1)))
   exact ⟨rfl, z7 HG1.out, rfl⟩
 · have d1 : decide (56 ≤ c) = true := decide_eq_true (by omega)
   have d2 : decide (c ≤ 64) = false := decide_eq_false (by omega);have d3 : decide (c < 56) = false := decide_eq_false (by omega);clear k1 k2 k3 k4 k5 k6
   go_enter Tryz.func21, Tryz.ntmps21
   go_wp2_with (first
    | (go_at_call 34; go_must (refine (zw rb s p _ (qb HR.out _) hp hs).mono ?_; rintro e w1 ⟨rfl, hR1, hg1⟩; rw [HC.out]; have HR1 := Aside0.mk hR1; have HG1 := Aside0.mk hg1; clear hR1 hg1)))
   exact ⟨rfl, z7 HG1.out, rfl⟩
def keyR (s : ByteArray) : Nat → Nat → Except Int (List S42)
 | 0, p => if p < s.size then .error 18 else .ok []
 | r + 1, p => if p < s.size then (match valK s p with
  | .error e => .error e
  | .ok (x, q) => match keyR s r q with
   | .error e => .error e
   | .ok l => .ok (x :: l)) else .ok []
def rdCat (done : List S42) (r : Except Int (List S42)) : Except Int (List S42) := match r with
 | .error e => .error e
 | .ok l => .ok (done ++ l)
def rowLen : Value → Nat
 | .slice _ n _ => n
 | _ => 0
set_option maxHeartbeats 4000000 in
set_option maxRecDepth 100000 in
theorem rk_calls (rb sb : Nat) (s : ByteArray) (w : World) (R : Except Int (List S42)) (h : keyR s 16 0 = R) (hs : s.size ≤ 1000000000) (hR : Rd w rb s 0) (hS : Sb w sb s) :
 Calls Tryz.prog 19 #[.pointer (some ⟨rb, 0, none⟩), .pointer (some ⟨sb, 0, none⟩)] w fun e w' => rdOut w rb R e w' := by
 have HR := Aside0.mk hR;have HS := Aside0.mk hS;have HE0 := Aside0.mk h;clear hR hS h
 go_enter Tryz.func19, Tryz.ntmps19
 go_wp2
 go_loopw [3] (fun v3 wr => ∃ (p r : Nat) (done : List S42), done.length + r = 16 ∧ Aside0 (rdCat done (keyR s r p) = R) ∧ Aside0 (Kd.R k42 42 wr w.heap.size (fun _ => True) v3 done) ∧ Aside0 (w.grownBy wr (some rb)) ∧ Aside0 (Rd wr rb s p) ∧ Aside0 (Sb wr sb s)) (fun v3 _ => 16 - rowLen v3)
 case atStart =>
  refine ⟨0, 16, [], rfl, ⟨?_⟩, ⟨Kd.R_nil _ _ _ _ _⟩, ⟨zd (Below.refl _ _) _⟩, HR, HS⟩;rw [HE0.out]
  rcases R with e | l <;> rfl
 case round =>
  clear HR HS HE0;obtain ⟨p, r, done, hr, HE, HK, HG, HR, HS⟩ := hrel;obtain ⟨A, cc, rfl⟩ := Kd.R_slice HK.out;have c1 := HR.out.c1;have c2 : wr.cell? ⟨sb, 0, none⟩ = some (.string s) := (qe HS.out 0).trans rfl
  by_cases hp : p < s.size
  · have g1 : decide ((p : Int) < (s.size : Int)) = true := decide_eq_true (by omega)
    have g2 : decide (p < s.size) = true := decide_eq_true hp
    rcases r with _ | r
    · have hE := HE.out
      rw [keyR, if_pos hp] at hE;simp only [rdCat] at hE;subst hE
      have l1 : ((done.length : Int) == 16) = true := by simp; omega
      go_wp2_with (first | (go_at_call 20; go_must (refine (xG _ 18 _).mono ?_; rintro e w2 ⟨rfl, rfl⟩)))
      exact ⟨rfl, HG.out, rfl⟩
    · have hE := HE.out
      rw [keyR, if_pos hp] at hE
      have l1 : ((done.length : Int) == 16) = false := by simp; omega
      have hdl : done.length ≤ 16 := by omega
      obtain ⟨R1, hR1⟩ : ∃ R1, valK s p = R1 := ⟨_, rfl⟩;rw [hR1] at hE;have HV := Aside0.mk hR1;clear HE hR1
      rcases R1 with er | ⟨x, q⟩
      · simp only [rdCat] at hE
        subst hE
        go_wp2_with (first
         | (go_at_call 20; go_must (refine (xh _ 18 _).mono ?_; rintro e w2 ⟨rfl, rfl⟩))
         | (go_at_call 21; go_must (refine (val_calls rb s p _ _ HR.out hs HV.out).mono ?_; rintro e w3 ⟨hg3, rfl⟩; have HG3 := Aside0.mk (HG.out.trans hg3); clear hg3)))
        exact ⟨rfl, HG3.out, rfl⟩
      · have HE2 : Aside0 (rdCat (done ++ [x]) (keyR s r q) = R) := by
         constructor
         rw [← hE]
         simp only
         rcases keyR s r q with e | l
         · rfl
         · simp [rdCat]
        clear hE
        go_wp2_with (first
         | (go_at_call 20; go_must (refine (xh _ 18 _).mono ?_; rintro e w2 ⟨rfl, rfl⟩))
         | (go_at_call 21; go_must (refine (val_calls rb s p _ _ HR.out hs HV.out).mono ?_; rintro e w3 ⟨hg3, rfl, hR3⟩; rw [show valV x = .agg #[.int .i64 x.f0, .int .i64 x.f1, .string x.f2] from rfl]; have HS3 := Aside0.mk (Sb.grown HS.out HR.out hg3); have HG3 := Aside0.mk (HG.out.trans hg3); have HK3 := Aside0.mk (rowV_grown HK.out HR.out hg3); have HR3 := Aside0.mk hR3; have hsz3 := HG3.out.size; clear hR3 hg3))
         | ((with_reducible refine qQ (b := .append) (xs := #[.tmp 13, .tmp 15]) rfl ?_); at_builtin; (refine Kd.R_append k42 (w0 := w3) w.heap.size rfl (.tmp 13) (.tmp 15) 36 42 (.agg #[.int .i64 0, .int .i64 0, .string ⟨#[]⟩]) 32 rfl Tryz.underlying36 info42 rfl (by decide) (by omega) (.slice A done.length cc) done x [.int .i64 x.f0, .int .i64 x.f1, .string x.f2] (fun _ => True) (fun _ => False) rfl ?hx ?aP (fun _ hk => hk.elim) ?aF ?aO ?aB ?aS ?aL ?_); (case hx => exact rfl); (case aP => exact ⟨_, _, rfl, rfl, ⟨_, _, rfl, rfl, rfl⟩⟩); (case aB => exact Below.refl _ _); (case aF => exact (fun _ _ => trivial)); (case aO => exact HK3.out); (case aS => exact hsz3); (case aL => omega); intro v1 w4 ho hb hg hat; have HK4 := Aside0.mk ho; have HR4 : Aside0 (Rd w4 rb s q) := ⟨za HR3.out hg (Kd.R_ne HK3.out HR3.out (by decide))⟩; have HS4 : Aside0 (Sb w4 sb s) := ⟨za HS3.out hg (Kd.R_ne HK3.out HS3.out (by decide))⟩; have HG4 : Aside0 (w.grownBy w4 (some rb)) := ⟨grown_then HG3.out hg (fun j hj => by obtain ⟨inner, ho⟩ := Kd.R_own HK3.out; exact xi ho j hj)⟩; clear ho hb hg hat))
        go_roundw
        case rel => exact ⟨q, r, done ++ [x], by simp; omega, HE2, HK4, HG4, HR4, HS4⟩
        case measure =>
         obtain ⟨A4, c4, hv4⟩ := Kd.R_slice HK4.out;rw [hv4]
         simp [rowLen]
         omega
  · have g1 : decide ((p : Int) < (s.size : Int)) = false := decide_eq_false (by omega)
    have g2 : decide (p < s.size) = false := decide_eq_false hp;have hE := HE.out;rw [show keyR s r p = .ok [] by cases r <;> rw [keyR, if_neg hp]] at hE;simp only [rdCat, List.append_nil] at hE;subst hE;go_wp2
    go_ret
    exact ⟨HG.out, _, rfl, HK.out⟩
set_option maxRecDepth 100000 in
set_option maxHeartbeats 1000000 in
theorem gather_key (rb sb : Nat) (s : ByteArray) (w : World) (R : Except Int (List S42)) (h : keyR s 16 0 = R) (hs : s.size ≤ 1000000000) (hR : Rd w rb s 0) (hS : Sb w sb s) :
 Calls Tryz.prog 18 #[.func (.func 19) #[] #[.pointer (some ⟨rb, 0, none⟩), .pointer (some ⟨sb, 0, none⟩)]] w fun e w' => w.grownBy w' (some rb) ∧ ∃ v0, e = .returned (.tuple #[v0, .int .i64 (rdE R)]) ∧ Kd.R k42 42 w' w.heap.size (fun _ => True) v0 (rdL R) := by
 have hmf : ∀ (fn : Fn) (first cap : Array Value) (w : World), (Instr.makeFunc fn first cap).run Tryz.prog w = .ok (.func fn first cap) w := fun _ _ _ _ => rfl
 have hrb := qK hR;have HR := Aside0.mk hR;have HS := Aside0.mk hS;clear hR hS
 have hP0 : ∀ w1, ((w.alloc (.cells #[.slice none 0 0] 36)).alloc (.cells #[.int .i64 0] 28)).grownBy w1 (some rb) → w1.heap[w.heap.size]? = some (.cells #[.slice none 0 0] 36 (0, 0)) ∧ w1.heap[w.heap.size + 1]? = some (.cells #[.int .i64 0] 28 (0, 0)) := fun w1 hg =>
  ⟨za (qb (heap_alloc_new w _) _) hg (fun e => by injection e with e; omega), za (by have := heap_alloc_new (w.alloc (.cells #[.slice none 0 0] 36)) (.cells #[.int .i64 0] 28); rw [World.size_alloc] at this; exact this) hg (fun e => by injection e with e; omega)⟩
 have HP0 := Aside0.mk hP0;clear hP0
 rcases R with why | l
 · go_enter_defers Tryz.func18, Tryz.ntmps18
   go_wp2_with (first | (go_at_call 19; go_must (refine (rk_calls rb sb s _ _ h hs (qb (qb HR.out _) _) ((HS.out.alloc _).alloc _)).mono ?_; rintro e w1 ⟨hg, rfl⟩)))
   refine leaves_cons (f := 33) (args := #[.pointer (some ⟨w.heap.size, 0, none⟩), .pointer (some ⟨w.heap.size + 1, 0, none⟩)]) (by simp) (by simp [go_sem]) ?_;refine (catch_broken w.heap.size (w.heap.size + 1) _ 0 why w1 (HP0.out _ hg).1 (HP0.out _ hg).2 (by omega)).mono ?_
   rintro e u' w2 ⟨rfl, rfl, rfl⟩
   have b0 := qu (HP0.out _ hg).1 0 (.slice none 0 0) rfl;have b1 := (heap_setCell_other _ ⟨w.heap.size + 1, 0, none⟩ w.heap.size (.int .i64 why) (by show w.heap.size ≠ w.heap.size + 1; omega)).trans b0;have b2 := qu ((heap_setCell_other w1 ⟨w.heap.size, 0, none⟩ (w.heap.size + 1) (.slice none 0 0) (by show w.heap.size + 1 ≠ w.heap.size; omega)).trans (HP0.out _ hg).2) 0 (.int .i64 why) rfl;have b3 := qg (qb b1 (.cells #[.int .i64 why] 83));have b4 := qg (qb b2 (.cells #[.int .i64 why] 83));have c3 : World.cell? _ ⟨w.heap.size, 0, none⟩ = some (.slice none 0 0) := (qe b3 0).trans rfl;have c4 : World.cell? _ ⟨w.heap.size + 1, 0, none⟩ = some (.int .i64 why) := (qe b4 0).trans rfl;have HGW : w.grownBy ((((w1.setCell ⟨w.heap.size, 0, none⟩ (.slice none 0 0)).setCell ⟨w.heap.size + 1, 0, none⟩ (.int .i64 why)).alloc (.cells #[.int .i64 why] 83)).drew) (some rb) := (xf (xf (z7 (z7 hg)) w.heap.size (Nat.le_refl _) 0 _) (w.heap.size + 1) (by omega) 0 _).trans (zd (zP (qa (Below.refl _ _) _)) _);generalize (((w1.setCell ⟨w.heap.size, 0, none⟩ (.slice none 0 0)).setCell ⟨w.heap.size + 1, 0, none⟩ (.int .i64 why)).alloc (.cells #[.int .i64 why] 83)).drew = W2 at *
   simp [Leaves, settle, results, Tryz.results18, go_sem, c3, c4]
   exact ⟨HGW, _, ⟨rfl, rfl⟩, Kd.R_nil _ _ _ _ _⟩
 · go_enter_defers Tryz.func18, Tryz.ntmps18
   go_wp2_with (first | (go_at_call 19; go_must (refine (rk_calls rb sb s _ _ h hs (qb (qb HR.out _) _) ((HS.out.alloc _).alloc _)).mono ?_; rintro e w1 ⟨hg, v0, rfl, hk⟩; obtain ⟨A, cc, rfl⟩ := Kd.R_slice hk; have HP := Aside0.mk (HP0.out _ hg); have HG := Aside0.mk hg; have HK := Aside0.mk hk; have c0 := (qe HP.out.1 0).trans rfl; have c1 := (qe HP.out.2 0).trans rfl; have f0 := q9 HP.out.1 0; have f1 := q9 HP.out.2 0; clear hk hg)))
   refine leaves_cons (f := 33) (args := #[.pointer (some ⟨w.heap.size, 0, none⟩), .pointer (some ⟨w.heap.size + 1, 0, none⟩)]) (by simp) (by simp [go_sem]) ?_;refine (catch_idle ⟨w.heap.size, 0, none⟩ ⟨w.heap.size + 1, 0, none⟩ _).mono ?_
   rintro e u' w2 ⟨rfl, rfl, rfl⟩
   have b1 := (heap_setCell_other _ ⟨w.heap.size + 1, 0, none⟩ w.heap.size (.int .i64 0) (by show w.heap.size ≠ w.heap.size + 1; omega)).trans (qu HP.out.1 0 (.slice A l.length cc) rfl);have b2 := qu ((heap_setCell_other w1 ⟨w.heap.size, 0, none⟩ (w.heap.size + 1) (.slice A l.length cc) (by show w.heap.size + 1 ≠ w.heap.size; omega)).trans HP.out.2) 0 (.int .i64 0) rfl;have c3 : World.cell? _ ⟨w.heap.size, 0, none⟩ = some (.slice A l.length cc) := (qe b1 0).trans rfl;have c4 : World.cell? _ ⟨w.heap.size + 1, 0, none⟩ = some (.int .i64 0) := (qe b2 0).trans rfl;have HGW : w.grownBy ((w1.setCell ⟨w.heap.size, 0, none⟩ (.slice A l.length cc)).setCell ⟨w.heap.size + 1, 0, none⟩ (.int .i64 0)) (some rb) := xf (xf (z7 (z7 HG.out)) w.heap.size (Nat.le_refl _) 0 _) (w.heap.size + 1) (by omega) 0 _;have HKW := Kd.R_lower (base' := w.heap.size) (Kd.R_set (Kd.R_set HK.out HP.out.1 (by intro q hq; have hq : q ∈ [42] := hq; rw [List.mem_singleton.1 hq]; decide) 0 (.slice A l.length cc)) ((heap_setCell_other w1 ⟨w.heap.size, 0, none⟩ (w.heap.size + 1) (.slice A l.length cc) (by show w.heap.size + 1 ≠ w.heap.size; omega)).trans HP.out.2) (by intro q hq; have hq : q ∈ [42] := hq; rw [List.mem_singleton.1 hq]; decide) 0 (.int .i64 0)) (by simp; omega);generalize (w1.setCell ⟨w.heap.size, 0, none⟩ (.slice A l.length cc)).setCell ⟨w.heap.size + 1, 0, none⟩ (.int .i64 0) = W2 at *
   simp [Leaves, settle, results, Tryz.results18, go_sem, c3, c4]
   exact ⟨HGW, _, ⟨rfl, rfl⟩, HKW⟩
def zF.f (s : ByteArray) : Option (List S42 × Int) := if s.size ≤ 1000000000 then some (rdL (keyR s 16 0), rdE (keyR s 16 0)) else none
set_option maxHeartbeats 1000000 in
theorem zF.calls (a0 : ByteArray) (r1 : List S42) (r2 : Int) (w : World) (h : zF.f a0 = some (r1, r2)) :
 Calls Tryz.prog 9 #[.string a0] w fun e w' => ∃ v0_ : Value, e = .returned (.tuple #[v0_, .int .i64 r2]) ∧ Kd.R k42 42 w' w.heap.size (fun _ => True) v0_ r1 ∧ Below w.heap.size w w' := by
 unfold zF.f at h
 by_cases hs : a0.size ≤ 1000000000
 case neg => rw [if_neg hs] at h; exact absurd h (by simp)
 rw [if_pos hs] at h;obtain ⟨R, hR⟩ : ∃ R, keyR a0 16 0 = R := ⟨_, rfl⟩;rw [hR] at h;simp only [Option.some.injEq, Prod.mk.injEq] at h;have h2 := h;obtain ⟨rfl, rfl⟩ := h2;clear h;have HRR := Aside0.mk hR;clear hR
 have hmf : ∀ (fn : Fn) (first cap : Array Value) (w : World), (Instr.makeFunc fn first cap).run Tryz.prog w = .ok (.func fn first cap) w := fun _ _ _ _ => rfl
 have hB : Sb ((w.alloc (.cells #[.string a0] 9)).alloc (.cells #[.string a0, .int .i64 0] 60)) w.heap.size a0 := qb (heap_alloc_new w _) _
 have hA : Rd ((w.alloc (.cells #[.string a0] 9)).alloc (.cells #[.string a0, .int .i64 0] 60)) (w.heap.size + 1) a0 0 := by have := heap_alloc_new (w.alloc (.cells #[.string a0] 9)) (.cells #[.string a0, .int .i64 0] 60); rw [World.size_alloc] at this; exact this
 have HA := Aside0.mk hA;have HB := Aside0.mk hB;clear hA hB
 go_enter Tryz.func9, Tryz.ntmps9
 go_wp2_with (first | (go_at_call 18; go_must (refine (gather_key (w.heap.size + 1) w.heap.size a0 _ R HRR.out hs HA.out HB.out).mono ?_; rintro e w1 ⟨hg, v0, rfl, hk⟩)))
 go_ret2
 refine ⟨v0, rfl, Kd.R_lower hk (by simp; omega), ?_⟩
 exact xK (qa (qa (Below.refl _ _) _) _) _ (by simp; omega) hg (fun k hk => by injection hk with hk; omega)
def zu.f (a0 : ByteArray) : Option (Bool) := if (a0.size : Int) ≥ 1 then (some (decide ((a0.size : Int) ≤ 32))) else (some false)
set_option maxHeartbeats 8000000 in
set_option maxRecDepth 100000 in
theorem zu.calls (a0 : ByteArray) (r : Bool) (w : World) (h : zu.f a0 = some r) :
 Calls Tryz.prog 38 #[.string a0] w fun e w' => e = .returned (.bool r) ∧ qE w w' := by
 have H : (if (a0.size : Int) ≥ 1 then (some (decide ((a0.size : Int) ≤ 32))) else (some false)) = some r := h;clear h
 by_cases c2 : (a0.size : Int) ≥ 1
 · rw [if_pos c2] at H
   have c2b0 : decide (1 ≤ (a0.size : Int)) = true := decide_eq_true c2;have c2b1 : decide (1 ≤ a0.size) = true := decide_eq_true (by omega);clear c2;obtain rfl := Option.some.inj H
   go_enter Tryz.func38, Tryz.ntmps38
   go_wp2
   go_ret
   exact ⟨by first | rfl | (simp; done) | (simp [*]; done), by repeat (first | exact qE.refl _ | apply qE.step)⟩
 · rw [if_neg c2] at H
   have c2b0 : decide (1 ≤ (a0.size : Int)) = false := decide_eq_false c2;have c2b1 : decide (1 ≤ a0.size) = false := decide_eq_false (by omega);clear c2;obtain rfl := Option.some.inj H
   go_enter Tryz.func38, Tryz.ntmps38
   go_wp2
   go_ret
   exact ⟨by first | rfl | (simp; done) | (simp [*]; done), by repeat (first | exact qE.refl _ | apply qE.step)⟩
def zT.f (a0 : Int) : Option (Bool) := if a0 = 1 then (some true) else (if a0 = 2 then (some true) else (some (a0 == 3)))
set_option maxHeartbeats 8000000 in
set_option maxRecDepth 100000 in
theorem zT.calls (a0 : Int) (r : Bool) (w : World) (h : zT.f a0 = some r) :
 Calls Tryz.prog 39 #[.int .i64 a0] w fun e w' => e = .returned (.bool r) ∧ qE w w' := by
 have H : (if a0 = 1 then (some true) else (if a0 = 2 then (some true) else (some (a0 == 3)))) = some r := h;clear h
 by_cases c2 : a0 = 1
 · rw [if_pos c2] at H
   have c2b0 : (a0 == 1) = true := beq_iff_eq.mpr c2;have c2b1 : (a0 != 1) = false := bne_eq_false_iff_eq.mpr c2;clear c2;obtain rfl := Option.some.inj H
   go_enter Tryz.func39, Tryz.ntmps39
   go_wp2
   go_ret
   exact ⟨by first | rfl | (simp; done) | (simp [*]; done), by repeat (first | exact qE.refl _ | apply qE.step)⟩
 · rw [if_neg c2] at H
   have c2b0 : (a0 == 1) = false := beq_eq_false_iff_ne.mpr c2;have c2b1 : (a0 != 1) = true := bne_iff_ne.mpr c2
   by_cases c3 : a0 = 2
   · rw [if_pos c3] at H
     have c3b0 : (a0 == 2) = true := beq_iff_eq.mpr c3;have c3b1 : (a0 != 2) = false := bne_eq_false_iff_eq.mpr c3;clear c3;obtain rfl := Option.some.inj H
     go_enter Tryz.func39, Tryz.ntmps39
     go_wp2
     go_ret
     exact ⟨by first | rfl | (simp; done) | (simp [*]; done), by repeat (first | exact qE.refl _ | apply qE.step)⟩
   · rw [if_neg c3] at H
     have c3b0 : (a0 == 2) = false := beq_eq_false_iff_ne.mpr c3;have c3b1 : (a0 != 2) = true := bne_iff_ne.mpr c3;obtain rfl := Option.some.inj H
     go_enter Tryz.func39, Tryz.ntmps39
     go_wp2
     go_ret
     exact ⟨by first | rfl | (simp; done) | (simp [*]; done), by repeat (first | exact qE.refl _ | apply qE.step)⟩
end Go.Proofs.YtggbhdcgfnjogaaGreatDoor.PPc

