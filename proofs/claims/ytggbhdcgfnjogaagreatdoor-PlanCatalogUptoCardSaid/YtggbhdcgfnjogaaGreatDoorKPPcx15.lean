import Derived.Test.YtggbhdcgfnjogaaGreatDoorKPPcx0
import Derived.Test.YtggbhdcgfnjogaaGreatDoorKPPcx5
namespace Go.Proofs.YtggbhdcgfnjogaaGreatDoor.PPc
open Go.RowKit Go.Proofs.YtggbhdcgfnjogaaGreatDoorW.PrintWords Go.Proofs.YtggbhdcgfnjogaaGreatDoorW.PrintLast Go.Proofs.YtggbhdcgfnjogaaGreatDoorW.PrintMore
set_option linter.unusedVariables false
set_option linter.unusedSimpArgs false
theorem pow7_le (n : Nat) (hn : n ≤ 9) : pow7 n ≤ 18446744073709551616 := by
 have : n = 0 ∨ n = 1 ∨ n = 2 ∨ n = 3 ∨ n = 4 ∨ n = 5 ∨ n = 6 ∨ n = 7 ∨ n = 8 ∨ n = 9 := by omega
 rcases this with rfl | rfl | rfl | rfl | rfl | rfl | rfl | rfl | rfl | rfl <;> decide
def qD.f (a0 : Int) : Option ByteArray := z2.f a0
set_option maxHeartbeats 2000000 in
theorem qD.calls (a0 : Int) (r : ByteArray) (w : World) (h : qD.f a0 = some r) :
 Calls Tryz.prog 31 #[.int .u64 a0] w fun e w' => e = .returned (.string r) ∧ Below w.heap.size w w' := by
 unfold qD.f z2.f at h
 by_cases hl : 0 ≤ a0 ∧ a0 < 18446744073709551616
 case neg => rw [if_neg hl] at h; exact absurd h (by simp)
 rw [if_pos hl] at h;have Hr := Aside0.mk (Option.some.inj h);clear h;have HP : Aside0 (a0 < pow7 0) := ⟨by unfold pow7; simpa using hl.2⟩;have hp0 : 0 ≤ a0 := hl.1;clear hl;have HB : Aside0 (Bs w w w.heap.size (.slice none 0 0) []) := ⟨Bs.nil (Below.refl _ _)⟩
 go_enter Tryz.func31, Tryz.ntmps31
 go_wp2
 go_loopw [0, 3] (fun v0 v3 wr => ∃ (n : Nat) (x : Int) (ys : List Int), n ≤ 9 ∧ 0 ≤ x ∧ v0 = .int .u64 x ∧ Aside0 (x < pow7 n) ∧ Aside0 (ys.length = n) ∧ Aside0 (ys ++ uv (10 - n) x = uv 10 a0) ∧ Aside0 (Bs w wr w.heap.size v3 ys)) (fun v0 _ _ => (intOf v0).toNat)
 case atStart => exact ⟨0, a0, [], by omega, hp0, rfl, HP, ⟨rfl⟩, ⟨rfl⟩, HB⟩
 case round =>
  clear HB HP hp0;obtain ⟨n, x, ys, hn, hx, rfl, HP, HL, HU, HB⟩ := hrel
  have hlen : ys.length ≤ 1000000000 := by rw [HL.out]; omega
  have hx64 : x < 18446744073709551616 := Int.lt_of_lt_of_le HP.out (pow7_le n hn)
  have etd : IntKind.u64.wrap (x.tdiv 128) = x / 128 := by rw [Int.tdiv_eq_ediv_of_nonneg hx]; simp [IntKind.wrap, IntKind.signed, IntKind.bits]; omega
  by_cases hge : 128 ≤ x
  · have d1 : decide (127 < x) = true := decide_eq_true (by omega)
    obtain ⟨hn8, hq⟩ := pow7_step hn hge HP.out;have HQ := Aside0.mk hq
    have HE : Aside0 ((ys ++ [x % 128 + 128]) ++ uv (10 - (n + 1)) (x / 128) = uv 10 a0) := by
     constructor
     rw [← HU.out];obtain ⟨m, hm⟩ : ∃ m, 10 - n = m + 1 := ⟨9 - n, by omega⟩;rw [hm, show 10 - (n + 1) = m by omega];simp only [uv, if_neg (show ¬ x < 128 by omega), List.append_assoc, List.singleton_append]
    have HL2 : Aside0 ((ys ++ [x % 128 + 128]).length = n + 1) := ⟨by rw [List.length_append, HL.out]; rfl⟩;clear hq
    go_wp2_with (first | ((with_reducible refine qQ (b := .append) (xs := #[.tmp 6, .tmp 11]) rfl ?_); at_builtin; refine Bs.one (w0 := w) (base := w.heap.size) rfl (.tmp 6) (.tmp 11) 76 rfl Tryz.underlying76 zV u3 ys (x % 128 + 128) rfl _ rfl rfl HB.out hlen ?_; intro v1 w1 h1 _; have H1 := Aside0.mk h1; clear h1))
    go_roundw
    case rel => exact ⟨n + 1, x / 128, ys ++ [x % 128 + 128], by omega, by omega, rfl, HQ, HL2, HE, H1⟩
    case measure => simp [intOf]; omega
  · have d1 : decide (127 < x) = false := decide_eq_false (by omega)
    have HE : Aside0 (ys ++ [x] = uv 10 a0) := by
     constructor
     rw [← HU.out];obtain ⟨m, hm⟩ : ∃ m, 10 - n = m + 1 := ⟨9 - n, by omega⟩;rw [hm];simp only [uv, if_pos (show x < 128 by omega)]
    have hxm : x % 256 = x := by omega
    have hcv : ∀ W v, Bs w W w.heap.size v (ys ++ [x]) → _ := fun W v hB => zA (P := Tryz.prog) (src := 76) (dst := 9) Tryz.underlying76 Tryz.underlying5 Tryz.underlying9 hB.1
    go_wp2_with (first | ((with_reducible refine qQ (b := .append) (xs := #[.tmp 15, .tmp 18]) rfl ?_); at_builtin; refine Bs.one (w0 := w) (base := w.heap.size) rfl (.tmp 15) (.tmp 18) 76 rfl Tryz.underlying76 zV u3 ys x rfl _ rfl rfl HB.out hlen ?_; intro v1 w1 h1 _; have H1 := Aside0.mk h1; have hcv1 := hcv _ _ h1; rw [HE.out, Hr.out] at hcv1; clear h1))
    go_ret
    exact ⟨rfl, H1.out.2.1⟩
def qM.j0 : Nat → Bool → Int → Int → ByteArray → Option (Int)
 | 0, _, _, _, _ => none
 | k + 1, x45, x219000, x219001, x219002 => if x45 = true then (some 4) else (if x219001 = 0 then (some 0) else (some 19))
def qM.f (k : Nat) (a0_0 : Int) (a0_1 : Int) (a0_2 : ByteArray) : Option (Int) := if a0_0 = 0 then (if a0_1 = 0 then (if a0_2.toList = ([] : List UInt8) then (some 0) else (some 19)) else (some 19)) else (if a0_0 = 1 then (if a0_1 = 0 then (if a0_2.toList = ([] : List UInt8) then (some 0) else (some 19)) else (if a0_1 = 1 then (if a0_2.toList = ([] : List UInt8) then (some 0) else (some 19)) else (some 19))) else (if a0_0 = 2 then (if a0_2.toList = ([] : List UInt8) then (some 0) else (some 19)) else (if a0_0 = 3 then (if a0_1 = 0 then (qM.j0 k (decide ((a0_2.size : Int) > 4096)) a0_0 a0_1 a0_2) else (qM.j0 k false a0_0 a0_1 a0_2)) else (some 19))))
set_option maxHeartbeats 8000000 in
set_option maxRecDepth 100000 in
theorem qM.calls (k : Nat) (a0_0 : Int) (a0_1 : Int) (a0_2 : ByteArray) (r : Int) (w : World) (h : qM.f k a0_0 a0_1 a0_2 = some r) :
 Calls Tryz.prog 75 #[.agg #[.int .i64 a0_0, .int .i64 a0_1, .string a0_2]] w fun e w' => e = .returned (.int .i64 r) ∧ Below w.heap.size w w' := by
 have hu42 := Tryz.underlying42;have HB := Aside0.mk (Below.refl w.heap.size w);have H : (if a0_0 = 0 then (if a0_1 = 0 then (if a0_2.toList = ([] : List UInt8) then (some 0) else (some 19)) else (some 19)) else (if a0_0 = 1 then (if a0_1 = 0 then (if a0_2.toList = ([] : List UInt8) then (some 0) else (some 19)) else (if a0_1 = 1 then (if a0_2.toList = ([] : List UInt8) then (some 0) else (some 19)) else (some 19))) else (if a0_0 = 2 then (if a0_2.toList = ([] : List UInt8) then (some 0) else (some 19)) else (if a0_0 = 3 then (if a0_1 = 0 then (qM.j0 k (decide ((a0_2.size : Int) > 4096)) a0_0 a0_1 a0_2) else (qM.j0 k false a0_0 a0_1 a0_2)) else (some 19))))) = some r := h;clear h
 by_cases c2 : a0_0 = 0
 · rw [if_pos c2] at H
   have c2b0 : (a0_0 == 0) = true := beq_iff_eq.mpr c2;have c2b1 : (a0_0 != 0) = false := bne_eq_false_iff_eq.mpr c2;clear c2
   by_cases c3 : a0_1 = 0
   · rw [if_pos c3] at H
     have c3b0 : (a0_1 == 0) = true := beq_iff_eq.mpr c3;have c3b1 : (a0_1 != 0) = false := bne_eq_false_iff_eq.mpr c3;clear c3
     by_cases c4 : a0_2.toList = ([] : List UInt8)
     · rw [if_pos c4] at H
       have c4b0 : (a0_2.toList == ([] : List UInt8)) = true := beq_iff_eq.mpr c4;have c4b1 : (a0_2.toList != ([] : List UInt8)) = false := bne_eq_false_iff_eq.mpr c4;clear c4;obtain rfl := Option.some.inj H
       go_enter Tryz.func75, Tryz.ntmps75
       go_wp2_with (first | ((with_reducible refine qG (N := 1) rfl ?_); (try (refine qZ (by rfl) ?_; dsimp only)); refine qF ?hg (N := 1) ?hd (cs := #[.int .i64 a0_0, .int .i64 a0_1, .string a0_2]) (t := 42) ?hr ?_; (case hd => rfl); (case hg => rfl); (case hr => first | (go_simp; done) | (go_simp; rfl)); intro gb218 hg w5 hbox hb; have BK218 := Aside0.mk (hbox); have GW218 := Aside0.mk ((by rw [hg]; exact (qj (by repeat (first | (with_reducible first | exact HB.out | apply qa | apply q8 | apply qd) | exact HB.out))) : w.heap.size ≤ gb218)); have GE218 := Aside0.mk ((by rw [hg]; exact (qj (by repeat (first | (with_reducible first | exact HB.out | apply qa | apply q8 | apply qd) | exact HB.out))) : w.heap.size ≤ gb218)); replace HB := Aside0.mk (qt (by repeat (first | (with_reducible first | exact HB.out | apply qa | apply q8 | apply qd) | exact HB.out)) hb); clear hb hbox hg; have hcz6_0 : w5.cell? ⟨gb218, 0, none⟩ = some (.int .i64 a0_0) := (qe BK218.out 0).trans rfl; have hcz6_1 : w5.cell? ⟨gb218, 1, none⟩ = some (.int .i64 a0_1) := (qe BK218.out 1).trans rfl; have hcz6_2 : w5.cell? ⟨gb218, 2, none⟩ = some (.string a0_2) := (qe BK218.out 2).trans rfl; have hfz6_0 := q9 BK218.out 0; have hfz6_1 := q9 BK218.out 1; have hfz6_2 := q9 BK218.out 2))
       go_ret
       exact ⟨by first | rfl | (simp [qm, qn] <;> rfl) | (simp [*, qm, qn] <;> rfl), by repeat (first | (with_reducible first | exact HB.out | apply qa | apply q8 | apply qd | refine qf ?_ GE218.out) | exact HB.out)⟩
     · rw [if_neg c4] at H
       have c4b0 : (a0_2.toList == ([] : List UInt8)) = false := beq_eq_false_iff_ne.mpr c4;have c4b1 : (a0_2.toList != ([] : List UInt8)) = true := bne_iff_ne.mpr c4;obtain rfl := Option.some.inj H
       go_enter Tryz.func75, Tryz.ntmps75
       go_wp2_with (first | ((with_reducible refine qG (N := 1) rfl ?_); (try (refine qZ (by rfl) ?_; dsimp only)); refine qF ?hg (N := 1) ?hd (cs := #[.int .i64 a0_0, .int .i64 a0_1, .string a0_2]) (t := 42) ?hr ?_; (case hd => rfl); (case hg => rfl); (case hr => first | (go_simp; done) | (go_simp; rfl)); intro gb218 hg w7 hbox hb; have BK218 := Aside0.mk (hbox); have GW218 := Aside0.mk ((by rw [hg]; exact (qj (by repeat (first | (with_reducible first | exact HB.out | apply qa | apply q8 | apply qd) | exact HB.out))) : w.heap.size ≤ gb218)); have GE218 := Aside0.mk ((by rw [hg]; exact (qj (by repeat (first | (with_reducible first | exact HB.out | apply qa | apply q8 | apply qd) | exact HB.out))) : w.heap.size ≤ gb218)); replace HB := Aside0.mk (qt (by repeat (first | (with_reducible first | exact HB.out | apply qa | apply q8 | apply qd) | exact HB.out)) hb); clear hb hbox hg; have hcz8_0 : w7.cell? ⟨gb218, 0, none⟩ = some (.int .i64 a0_0) := (qe BK218.out 0).trans rfl; have hcz8_1 : w7.cell? ⟨gb218, 1, none⟩ = some (.int .i64 a0_1) := (qe BK218.out 1).trans rfl; have hcz8_2 : w7.cell? ⟨gb218, 2, none⟩ = some (.string a0_2) := (qe BK218.out 2).trans rfl; have hfz8_0 := q9 BK218.out 0; have hfz8_1 := q9 BK218.out 1; have hfz8_2 := q9 BK218.out 2))
       go_ret
       exact ⟨by first | rfl | (simp [qm, qn] <;> rfl) | (simp [*, qm, qn] <;> rfl), by repeat (first | (with_reducible first | exact HB.out | apply qa | apply q8 | apply qd | refine qf ?_ GE218.out) | exact HB.out)⟩
   · rw [if_neg c3] at H
     have c3b0 : (a0_1 == 0) = false := beq_eq_false_iff_ne.mpr c3;have c3b1 : (a0_1 != 0) = true := bne_iff_ne.mpr c3;obtain rfl := Option.some.inj H
     go_enter Tryz.func75, Tryz.ntmps75
     go_wp2_with (first | ((with_reducible refine qG (N := 1) rfl ?_); (try (refine qZ (by rfl) ?_; dsimp only)); refine qF ?hg (N := 1) ?hd (cs := #[.int .i64 a0_0, .int .i64 a0_1, .string a0_2]) (t := 42) ?hr ?_; (case hd => rfl); (case hg => rfl); (case hr => first | (go_simp; done) | (go_simp; rfl)); intro gb218 hg w9 hbox hb; have BK218 := Aside0.mk (hbox); have GW218 := Aside0.mk ((by rw [hg]; exact (qj (by repeat (first | (with_reducible first | exact HB.out | apply qa | apply q8 | apply qd) | exact HB.out))) : w.heap.size ≤ gb218)); have GE218 := Aside0.mk ((by rw [hg]; exact (qj (by repeat (first | (with_reducible first | exact HB.out | apply qa | apply q8 | apply qd) | exact HB.out))) : w.heap.size ≤ gb218)); replace HB := Aside0.mk (qt (by repeat (first | (with_reducible first | exact HB.out | apply qa | apply q8 | apply qd) | exact HB.out)) hb); clear hb hbox hg; have hcz10_0 : w9.cell? ⟨gb218, 0, none⟩ = some (.int .i64 a0_0) := (qe BK218.out 0).trans rfl; have hcz10_1 : w9.cell? ⟨gb218, 1, none⟩ = some (.int .i64 a0_1) := (qe BK218.out 1).trans rfl; have hcz10_2 : w9.cell? ⟨gb218, 2, none⟩ = some (.string a0_2) := (qe BK218.out 2).trans rfl; have hfz10_0 := q9 BK218.out 0; have hfz10_1 := q9 BK218.out 1; have hfz10_2 := q9 BK218.out 2))
     go_ret
     exact ⟨by first | rfl | (simp [qm, qn] <;> rfl) | (simp [*, qm, qn] <;> rfl), by repeat (first | (with_reducible first | exact HB.out | apply qa | apply q8 | apply qd | refine qf ?_ GE218.out) | exact HB.out)⟩
 · rw [if_neg c2] at H
   have c2b0 : (a0_0 == 0) = false := beq_eq_false_iff_ne.mpr c2;have c2b1 : (a0_0 != 0) = true := bne_iff_ne.mpr c2
   by_cases c11 : a0_0 = 1
   · rw [if_pos c11] at H
     have c11b0 : (a0_0 == 1) = true := beq_iff_eq.mpr c11;have c11b1 : (a0_0 != 1) = false := bne_eq_false_iff_eq.mpr c11;clear c11
     by_cases c12 : a0_1 = 0
     · rw [if_pos c12] at H
       have c12b0 : (a0_1 == 0) = true := beq_iff_eq.mpr c12;have c12b1 : (a0_1 != 0) = false := bne_eq_false_iff_eq.mpr c12;clear c12
       by_cases c13 : a0_2.toList = ([] : List UInt8)
       · rw [if_pos c13] at H
         have c13b0 : (a0_2.toList == ([] : List UInt8)) = true := beq_iff_eq.mpr c13;have c13b1 : (a0_2.toList != ([] : List UInt8)) = false := bne_eq_false_iff_eq.mpr c13;clear c13;obtain rfl := Option.some.inj H
         go_enter Tryz.func75, Tryz.ntmps75
         go_wp2_with (first | ((with_reducible refine qG (N := 1) rfl ?_); (try (refine qZ (by rfl) ?_; dsimp only)); refine qF ?hg (N := 1) ?hd (cs := #[.int .i64 a0_0, .int .i64 a0_1, .string a0_2]) (t := 42) ?hr ?_; (case hd => rfl); (case hg => rfl); (case hr => first | (go_simp; done) | (go_simp; rfl)); intro gb218 hg w14 hbox hb; have BK218 := Aside0.mk (hbox); have GW218 := Aside0.mk ((by rw [hg]; exact (qj (by repeat (first | (with_reducible first | exact HB.out | apply qa | apply q8 | apply qd) | exact HB.out))) : w.heap.size ≤ gb218)); have GE218 := Aside0.mk ((by rw [hg]; exact (qj (by repeat (first | (with_reducible first | exact HB.out | apply qa | apply q8 | apply qd) | exact HB.out))) : w.heap.size ≤ gb218)); replace HB := Aside0.mk (qt (by repeat (first | (with_reducible first | exact HB.out | apply qa | apply q8 | apply qd) | exact HB.out)) hb); clear hb hbox hg; have hcz15_0 : w14.cell? ⟨gb218, 0, none⟩ = some (.int .i64 a0_0) := (qe BK218.out 0).trans rfl; have hcz15_1 : w14.cell? ⟨gb218, 1, none⟩ = some (.int .i64 a0_1) := (qe BK218.out 1).trans rfl; have hcz15_2 : w14.cell? ⟨gb218, 2, none⟩ = some (.string a0_2) := (qe BK218.out 2).trans rfl; have hfz15_0 := q9 BK218.out 0; have hfz15_1 := q9 BK218.out 1; have hfz15_2 := q9 BK218.out 2))
         go_ret
         exact ⟨by first | rfl | (simp [qm, qn] <;> rfl) | (simp [*, qm, qn] <;> rfl), by repeat (first | (with_reducible first | exact HB.out | apply qa | apply q8 | apply qd | refine qf ?_ GE218.out) | exact HB.out)⟩
       · rw [if_neg c13] at H
         have c13b0 : (a0_2.toList == ([] : List UInt8)) = false := beq_eq_false_iff_ne.mpr c13;have c13b1 : (a0_2.toList != ([] : List UInt8)) = true := bne_iff_ne.mpr c13;obtain rfl := Option.some.inj H
         go_enter Tryz.func75, Tryz.ntmps75
         go_wp2_with (first | ((with_reducible refine qG (N := 1) rfl ?_); (try (refine qZ (by rfl) ?_; dsimp only)); refine qF ?hg (N := 1) ?hd (cs := #[.int .i64 a0_0, .int .i64 a0_1, .string a0_2]) (t := 42) ?hr ?_; (case hd => rfl); (case hg => rfl); (case hr => first | (go_simp; done) | (go_simp; rfl)); intro gb218 hg w16 hbox hb; have BK218 := Aside0.mk (hbox); have GW218 := Aside0.mk ((by rw [hg]; exact (qj (by repeat (first | (with_reducible first | exact HB.out | apply qa | apply q8 | apply qd) | exact HB.out))) : w.heap.size ≤ gb218)); have GE218 := Aside0.mk ((by rw [hg]; exact (qj (by repeat (first | (with_reducible first | exact HB.out | apply qa | apply q8 | apply qd) | exact HB.out))) : w.heap.size ≤ gb218)); replace HB := Aside0.mk (qt (by repeat (first | (with_reducible first | exact HB.out | apply qa | apply q8 | apply qd) | exact HB.out)) hb); clear hb hbox hg; have hcz17_0 : w16.cell? ⟨gb218, 0, none⟩ = some (.int .i64 a0_0) := (qe BK218.out 0).trans rfl; have hcz17_1 : w16.cell? ⟨gb218, 1, none⟩ = some (.int .i64 a0_1) := (qe BK218.out 1).trans rfl; have hcz17_2 : w16.cell? ⟨gb218, 2, none⟩ = some (.string a0_2) := (qe BK218.out 2).trans rfl; have hfz17_0 := q9 BK218.out 0; have hfz17_1 := q9 BK218.out 1; have hfz17_2 := q9 BK218.out 2))
         go_ret
         exact ⟨by first | rfl | (simp [qm, qn] <;> rfl) | (simp [*, qm, qn] <;> rfl), by repeat (first | (with_reducible first | exact HB.out | apply qa | apply q8 | apply qd | refine qf ?_ GE218.out) | exact HB.out)⟩
     · rw [if_neg c12] at H
       have c12b0 : (a0_1 == 0) = false := beq_eq_false_iff_ne.mpr c12;have c12b1 : (a0_1 != 0) = true := bne_iff_ne.mpr c12
       by_cases c18 : a0_1 = 1
       · rw [if_pos c18] at H
         have c18b0 : (a0_1 == 1) = true := beq_iff_eq.mpr c18;have c18b1 : (a0_1 != 1) = false := bne_eq_false_iff_eq.mpr c18;clear c18
         by_cases c19 : a0_2.toList = ([] : List UInt8)
         · rw [if_pos c19] at H
           have c19b0 : (a0_2.toList == ([] : List UInt8)) = true := beq_iff_eq.mpr c19;have c19b1 : (a0_2.toList != ([] : List UInt8)) = false := bne_eq_false_iff_eq.mpr c19;clear c19;obtain rfl := Option.some.inj H
           go_enter Tryz.func75, Tryz.ntmps75
           go_wp2_with (first | ((with_reducible refine qG (N := 1) rfl ?_); (try (refine qZ (by rfl) ?_; dsimp only)); refine qF ?hg (N := 1) ?hd (cs := #[.int .i64 a0_0, .int .i64 a0_1, .string a0_2]) (t := 42) ?hr ?_; (case hd => rfl); (case hg => rfl); (case hr => first | (go_simp; done) | (go_simp; rfl)); intro gb218 hg w20 hbox hb; have BK218 := Aside0.mk (hbox); have GW218 := Aside0.mk ((by rw [hg]; exact (qj (by repeat (first | (with_reducible first | exact HB.out | apply qa | apply q8 | apply qd) | exact HB.out))) : w.heap.size ≤ gb218)); have GE218 := Aside0.mk ((by rw [hg]; exact (qj (by repeat (first | (with_reducible first | exact HB.out | apply qa | apply q8 | apply qd) | exact HB.out))) : w.heap.size ≤ gb218)); replace HB := Aside0.mk (qt (by repeat (first | (with_reducible first | exact HB.out | apply qa | apply q8 | apply qd) | exact HB.out)) hb); clear hb hbox hg; have hcz21_0 : w20.cell? ⟨gb218, 0, none⟩ = some (.int .i64 a0_0) := (qe BK218.out 0).trans rfl; have hcz21_1 : w20.cell? ⟨gb218, 1, none⟩ = some (.int .i64 a0_1) := (qe BK218.out 1).trans rfl; have hcz21_2 : w20.cell? ⟨gb218, 2, none⟩ = some (.string a0_2) := (qe BK218.out 2).trans rfl; have hfz21_0 := q9 BK218.out 0; have hfz21_1 := q9 BK218.out 1; have hfz21_2 := q9 BK218.out 2))
           go_ret
           exact ⟨by first | rfl | (simp [qm, qn] <;> rfl) | (simp [*, qm, qn] <;> rfl), by repeat (first | (with_reducible first | exact HB.out | apply qa | apply q8 | apply qd | refine qf ?_ GE218.out) | exact HB.out)⟩
         · rw [if_neg c19] at H
           have c19b0 : (a0_2.toList == ([] : List UInt8)) = false := beq_eq_false_iff_ne.mpr c19;have c19b1 : (a0_2.toList != ([] : List UInt8)) = true := bne_iff_ne.mpr c19;obtain rfl := Option.some.inj H
           go_enter Tryz.func75, Tryz.ntmps75
           go_wp2_with (first | ((with_reducible refine qG (N := 1) rfl ?_); (try (refine qZ (by rfl) ?_; dsimp only)); refine qF ?hg (N := 1) ?hd (cs := #[.int .i64 a0_0, .int .i64 a0_1, .string a0_2]) (t := 42) ?hr ?_; (case hd => rfl); (case hg => rfl); (case hr => first | (go_simp; done) | (go_simp; rfl)); intro gb218 hg w22 hbox hb; have BK218 := Aside0.mk (hbox); have GW218 := Aside0.mk ((by rw [hg]; exact (qj (by repeat (first | (with_reducible first | exact HB.out | apply qa | apply q8 | apply qd) | exact HB.out))) : w.heap.size ≤ gb218)); have GE218 := Aside0.mk ((by rw [hg]; exact (qj (by repeat (first | (with_reducible first | exact HB.out | apply qa | apply q8 | apply qd) | exact HB.out))) : w.heap.size ≤ gb218)); replace HB := Aside0.mk (qt (by repeat (first | (with_reducible first | exact HB.out | apply qa | apply q8 | apply qd) | exact HB.out)) hb); clear hb hbox hg; have hcz23_0 : w22.cell? ⟨gb218, 0, none⟩ = some (.int .i64 a0_0) := (qe BK218.out 0).trans rfl; have hcz23_1 : w22.cell? ⟨gb218, 1, none⟩ = some (.int .i64 a0_1) := (qe BK218.out 1).trans rfl; have hcz23_2 : w22.cell? ⟨gb218, 2, none⟩ = some (.string a0_2) := (qe BK218.out 2).trans rfl; have hfz23_0 := q9 BK218.out 0; have hfz23_1 := q9 BK218.out 1; have hfz23_2 := q9 BK218.out 2))
           go_ret
           exact ⟨by first | rfl | (simp [qm, qn] <;> rfl) | (simp [*, qm, qn] <;> rfl), by repeat (first | (with_reducible first | exact HB.out | apply qa | apply q8 | apply qd | refine qf ?_ GE218.out) | exact HB.out)⟩
       · rw [if_neg c18] at H
         have c18b0 : (a0_1 == 1) = false := beq_eq_false_iff_ne.mpr c18;have c18b1 : (a0_1 != 1) = true := bne_iff_ne.mpr c18;obtain rfl := Option.some.inj H
         go_enter Tryz.func75, Tryz.ntmps75
         go_wp2_with (first | ((with_reducible refine qG (N := 1) rfl ?_); (try (refine qZ (by rfl) ?_; dsimp only)); refine qF ?hg (N := 1) ?hd (cs := #[.int .i64 a0_0, .int .i64 a0_1, .string a0_2]) (t := 42) ?hr ?_; (case hd => rfl); (case hg => rfl); (case hr => first | (go_simp; done) | (go_simp; rfl)); intro gb218 hg w24 hbox hb; have BK218 := Aside0.mk (hbox); have GW218 := Aside0.mk ((by rw [hg]; exact (qj (by repeat (first | (with_reducible first | exact HB.out | apply qa | apply q8 | apply qd) | exact HB.out))) : w.heap.size ≤ gb218)); have GE218 := Aside0.mk ((by rw [hg]; exact (qj (by repeat (first | (with_reducible first | exact HB.out | apply qa | apply q8 | apply qd) | exact HB.out))) : w.heap.size ≤ gb218)); replace HB := Aside0.mk (qt (by repeat (first | (with_reducible first | exact HB.out | apply qa | apply q8 | apply qd) | exact HB.out)) hb); clear hb hbox hg; have hcz25_0 : w24.cell? ⟨gb218, 0, none⟩ = some (.int .i64 a0_0) := (qe BK218.out 0).trans rfl; have hcz25_1 : w24.cell? ⟨gb218, 1, none⟩ = some (.int .i64 a0_1) := (qe BK218.out 1).trans rfl; have hcz25_2 : w24.cell? ⟨gb218, 2, none⟩ = some (.string a0_2) := (qe BK218.out 2).trans rfl; have hfz25_0 := q9 BK218.out 0; have hfz25_1 := q9 BK218.out 1; have hfz25_2 := q9 BK218.out 2))
         go_ret
         exact ⟨by first | rfl | (simp [qm, qn] <;> rfl) | (simp [*, qm, qn] <;> rfl), by repeat (first | (with_reducible first | exact HB.out | apply qa | apply q8 | apply qd | refine qf ?_ GE218.out) | exact HB.out)⟩
   · rw [if_neg c11] at H
     have c11b0 : (a0_0 == 1) = false := beq_eq_false_iff_ne.mpr c11;have c11b1 : (a0_0 != 1) = true := bne_iff_ne.mpr c11
     by_cases c26 : a0_0 = 2
     · rw [if_pos c26] at H
       have c26b0 : (a0_0 == 2) = true := beq_iff_eq.mpr c26;have c26b1 : (a0_0 != 2) = false := bne_eq_false_iff_eq.mpr c26;clear c26
       by_cases c27 : a0_2.toList = ([] : List UInt8)
       · rw [if_pos c27] at H
         have c27b0 : (a0_2.toList == ([] : List UInt8)) = true := beq_iff_eq.mpr c27;have c27b1 : (a0_2.toList != ([] : List UInt8)) = false := bne_eq_false_iff_eq.mpr c27;clear c27;obtain rfl := Option.some.inj H
         go_enter Tryz.func75, Tryz.ntmps75
         go_wp2_with (first | ((with_reducible refine qG (N := 1) rfl ?_); (try (refine qZ (by rfl) ?_; dsimp only)); refine qF ?hg (N := 1) ?hd (cs := #[.int .i64 a0_0, .int .i64 a0_1, .string a0_2]) (t := 42) ?hr ?_; (case hd => rfl); (case hg => rfl); (case hr => first | (go_simp; done) | (go_simp; rfl)); intro gb218 hg w28 hbox hb; have BK218 := Aside0.mk (hbox); have GW218 := Aside0.mk ((by rw [hg]; exact (qj (by repeat (first | (with_reducible first | exact HB.out | apply qa | apply q8 | apply qd) | exact HB.out))) : w.heap.size ≤ gb218)); have GE218 := Aside0.mk ((by rw [hg]; exact (qj (by repeat (first | (with_reducible first | exact HB.out | apply qa | apply q8 | apply qd) | exact HB.out))) : w.heap.size ≤ gb218)); replace HB := Aside0.mk (qt (by repeat (first | (with_reducible first | exact HB.out | apply qa | apply q8 | apply qd) | exact HB.out)) hb); clear hb hbox hg; have hcz29_0 : w28.cell? ⟨gb218, 0, none⟩ = some (.int .i64 a0_0) := (qe BK218.out 0).trans rfl; have hcz29_1 : w28.cell? ⟨gb218, 1, none⟩ = some (.int .i64 a0_1) := (qe BK218.out 1).trans rfl; have hcz29_2 : w28.cell? ⟨gb218, 2, none⟩ = some (.string a0_2) := (qe BK218.out 2).trans rfl; have hfz29_0 := q9 BK218.out 0; have hfz29_1 := q9 BK218.out 1; have hfz29_2 := q9 BK218.out 2))
         go_ret
         exact ⟨by first | rfl | (simp [qm, qn] <;> rfl) | (simp [*, qm, qn] <;> rfl), by repeat (first | (with_reducible first | exact HB.out | apply qa | apply q8 | apply qd | refine qf ?_ GE218.out) | exact HB.out)⟩
       · rw [if_neg c27] at H
         have c27b0 : (a0_2.toList == ([] : List UInt8)) = false := beq_eq_false_iff_ne.mpr c27;have c27b1 : (a0_2.toList != ([] : List UInt8)) = true := bne_iff_ne.mpr c27;obtain rfl := Option.some.inj H
         go_enter Tryz.func75, Tryz.ntmps75
         go_wp2_with (first | ((with_reducible refine qG (N := 1) rfl ?_); (try (refine qZ (by rfl) ?_; dsimp only)); refine qF ?hg (N := 1) ?hd (cs := #[.int .i64 a0_0, .int .i64 a0_1, .string a0_2]) (t := 42) ?hr ?_; (case hd => rfl); (case hg => rfl); (case hr => first | (go_simp; done) | (go_simp; rfl)); intro gb218 hg w30 hbox hb; have BK218 := Aside0.mk (hbox); have GW218 := Aside0.mk ((by rw [hg]; exact (qj (by repeat (first | (with_reducible first | exact HB.out | apply qa | apply q8 | apply qd) | exact HB.out))) : w.heap.size ≤ gb218)); have GE218 := Aside0.mk ((by rw [hg]; exact (qj (by repeat (first | (with_reducible first | exact HB.out | apply qa | apply q8 | apply qd) | exact HB.out))) : w.heap.size ≤ gb218)); replace HB := Aside0.mk (qt (by repeat (first | (with_reducible first | exact HB.out | apply qa | apply q8 | apply qd) | exact HB.out)) hb); clear hb hbox hg; have hcz31_0 : w30.cell? ⟨gb218, 0, none⟩ = some (.int .i64 a0_0) := (qe BK218.out 0).trans rfl; have hcz31_1 : w30.cell? ⟨gb218, 1, none⟩ = some (.int .i64 a0_1) := (qe BK218.out 1).trans rfl; have hcz31_2 : w30.cell? ⟨gb218, 2, none⟩ = some (.string a0_2) := (qe BK218.out 2).trans rfl; have hfz31_0 := q9 BK218.out 0; have hfz31_1 := q9 BK218.out 1; have hfz31_2 := q9 BK218.out 2))
         go_ret
         exact ⟨by first | rfl | (simp [qm, qn] <;> rfl) | (simp [*, qm, qn] <;> rfl), by repeat (first | (with_reducible first | exact HB.out | apply qa | apply q8 | apply qd | refine qf ?_ GE218.out) | exact HB.out)⟩
     · rw [if_neg c26] at H
       have c26b0 : (a0_0 == 2) = false := beq_eq_false_iff_ne.mpr c26;have c26b1 : (a0_0 != 2) = true := bne_iff_ne.mpr c26
       by_cases c32 : a0_0 = 3
       · rw [if_pos c32] at H
         have c32b0 : (a0_0 == 3) = true := beq_iff_eq.mpr c32;have c32b1 : (a0_0 != 3) = false := bne_eq_false_iff_eq.mpr c32;clear c32;have HC33 := Aside0.mk H;clear H
         go_enter Tryz.func75, Tryz.ntmps75
         go_upto_region 12 with (first | ((with_reducible refine qG (N := 1) rfl ?_); (try (refine qZ (by rfl) ?_; dsimp only)); refine qF ?hg (N := 1) ?hd (cs := #[.int .i64 a0_0, .int .i64 a0_1, .string a0_2]) (t := 42) ?hr ?_; (case hd => rfl); (case hg => rfl); (case hr => first | (go_simp; done) | (go_simp; rfl)); intro gb218 hg w34 hbox hb; have BK218 := Aside0.mk (hbox); have GW218 := Aside0.mk ((by rw [hg]; exact (qj (by repeat (first | (with_reducible first | exact HB.out | apply qa | apply q8 | apply qd) | exact HB.out))) : w.heap.size ≤ gb218)); have GE218 := Aside0.mk ((by rw [hg]; exact (qj (by repeat (first | (with_reducible first | exact HB.out | apply qa | apply q8 | apply qd) | exact HB.out))) : w.heap.size ≤ gb218)); replace HB := Aside0.mk (qt (by repeat (first | (with_reducible first | exact HB.out | apply qa | apply q8 | apply qd) | exact HB.out)) hb); clear hb hbox hg; have hcz35_0 : w34.cell? ⟨gb218, 0, none⟩ = some (.int .i64 a0_0) := (qe BK218.out 0).trans rfl; have hcz35_1 : w34.cell? ⟨gb218, 1, none⟩ = some (.int .i64 a0_1) := (qe BK218.out 1).trans rfl; have hcz35_2 : w34.cell? ⟨gb218, 2, none⟩ = some (.string a0_2) := (qe BK218.out 2).trans rfl; have hfz35_0 := q9 BK218.out 0; have hfz35_1 := q9 BK218.out 1; have hfz35_2 := q9 BK218.out 2))
         (try simp only [Act.put, List.setIfInBounds_toArray, List.set_cons_zero, List.set_cons_succ])
         go_cut [45] (fun v45 wc => ∃ (kq : Nat) (x45_32 : Bool), v45 = .bool x45_32 ∧ Aside0 (qM.j0 kq x45_32 a0_0 a0_1 a0_2 = some r) ∧ Aside0 (kq ≤ k) ∧ Aside0 (wc.heap[gb218]? = some (.cells #[.int .i64 a0_0, .int .i64 a0_1, .string a0_2] 42 (0, 0))) ∧ Aside0 (Below w.heap.size w wc))
         case first =>
          have H := HC33.out;clear HC33
          by_cases c36 : a0_1 = 0
          · rw [if_pos c36] at H
            have c36b0 : (a0_1 == 0) = true := beq_iff_eq.mpr c36;have c36b1 : (a0_1 != 0) = false := bne_eq_false_iff_eq.mpr c36;clear c36
            (first | rw [c36b0] | (simp only [qS, qV]; rw [c36b0]) | skip)
            have H' := Aside0.mk H;clear H;have hcz37_0 : w34.cell? ⟨gb218, 0, none⟩ = some (.int .i64 a0_0) := (qe BK218.out 0).trans rfl;have hcz37_1 : w34.cell? ⟨gb218, 1, none⟩ = some (.int .i64 a0_1) := (qe BK218.out 1).trans rfl;have hcz37_2 : w34.cell? ⟨gb218, 2, none⟩ = some (.string a0_2) := (qe BK218.out 2).trans rfl;have hfz37_0 := q9 BK218.out 0;have hfz37_1 := q9 BK218.out 1;have hfz37_2 := q9 BK218.out 2;go_wp2;go_meet
            case rel => exact ⟨_, (decide ((a0_2.size : Int) > 4096)), (by first | rfl | (simp; done) | (simp [*]; done)), H', ⟨by first | omega | exact Nat.le_refl _⟩, ⟨by (with_reducible repeat (first | refine qc ?_ _ | refine qg ?_ | refine qb ?_ _)); exact BK218.out⟩, ⟨by repeat (first | (with_reducible first | exact HB.out | apply qa | apply q8 | apply qd | refine qf ?_ GE218.out) | exact HB.out)⟩⟩
          · rw [if_neg c36] at H
            have c36b0 : (a0_1 == 0) = false := beq_eq_false_iff_ne.mpr c36;have c36b1 : (a0_1 != 0) = true := bne_iff_ne.mpr c36
            (first | rw [c36b0] | (simp only [qS, qV]; rw [c36b0]) | skip)
            have H' := Aside0.mk H;clear H;have hcz38_0 : w34.cell? ⟨gb218, 0, none⟩ = some (.int .i64 a0_0) := (qe BK218.out 0).trans rfl;have hcz38_1 : w34.cell? ⟨gb218, 1, none⟩ = some (.int .i64 a0_1) := (qe BK218.out 1).trans rfl;have hcz38_2 : w34.cell? ⟨gb218, 2, none⟩ = some (.string a0_2) := (qe BK218.out 2).trans rfl;have hfz38_0 := q9 BK218.out 0;have hfz38_1 := q9 BK218.out 1;have hfz38_2 := q9 BK218.out 2;go_wp2;go_meet
            case rel => exact ⟨_, (false), (by first | rfl | (simp; done) | (simp [*]; done)), H', ⟨by first | omega | exact Nat.le_refl _⟩, ⟨by (with_reducible repeat (first | refine qc ?_ _ | refine qg ?_ | refine qb ?_ _)); exact BK218.out⟩, ⟨by repeat (first | (with_reducible first | exact HB.out | apply qa | apply q8 | apply qd | refine qf ?_ GE218.out) | exact HB.out)⟩⟩
         case rest =>
          clear HC33
          (try clear c1); (try clear c2); (try clear c2b0); (try clear c2b1); (try clear p2); (try clear c3); (try clear c3b0); (try clear c3b1); (try clear c4); (try clear c4b0); (try clear c4b1); (try clear c7); (try clear c11); (try clear c11b0); (try clear c11b1); (try clear c12); (try clear c12b0); (try clear c12b1); (try clear c13); (try clear c13b0); (try clear c13b1); (try clear c18); (try clear c18b0); (try clear c18b1); (try clear c19); (try clear c19b0); (try clear c19b1); (try clear c26); (try clear c26b0); (try clear c26b1); (try clear c27); (try clear c27b0); (try clear c27b1); (try clear c32); (try clear c32b0); (try clear c32b1); (try clear c36); (try clear c36b0); (try clear c36b1); (try clear hcz10_0); (try clear hcz10_1); (try clear hcz10_2); (try clear hcz15_0); (try clear hcz15_1); (try clear hcz15_2); (try clear hcz17_0); (try clear hcz17_1); (try clear hcz17_2); (try clear hcz21_0); (try clear hcz21_1); (try clear hcz21_2); (try clear hcz23_0); (try clear hcz23_1); (try clear hcz23_2); (try clear hcz25_0); (try clear hcz25_1); (try clear hcz25_2); (try clear hcz29_0); (try clear hcz29_1); (try clear hcz29_2); (try clear hcz31_0); (try clear hcz31_1); (try clear hcz31_2); (try clear hcz35_0); (try clear hcz35_1); (try clear hcz35_2); (try clear hcz37_0); (try clear hcz37_1); (try clear hcz37_2); (try clear hcz38_0); (try clear hcz38_1); (try clear hcz38_2); (try clear hcz6_0); (try clear hcz6_1); (try clear hcz6_2); (try clear hcz8_0); (try clear hcz8_1); (try clear hcz8_2); (try clear hfz10_0); (try clear hfz10_1); (try clear hfz10_2); (try clear hfz15_0); (try clear hfz15_1); (try clear hfz15_2); (try clear hfz17_0); (try clear hfz17_1); (try clear hfz17_2); (try clear hfz21_0); (try clear hfz21_1); (try clear hfz21_2); (try clear hfz23_0); (try clear hfz23_1); (try clear hfz23_2); (try clear hfz25_0); (try clear hfz25_1); (try clear hfz25_2); (try clear hfz29_0); (try clear hfz29_1); (try clear hfz29_2); (try clear hfz31_0); (try clear hfz31_1); (try clear hfz31_2); (try clear hfz35_0); (try clear hfz35_1); (try clear hfz35_2); (try clear hfz37_0); (try clear hfz37_1); (try clear hfz37_2); (try clear hfz38_0); (try clear hfz38_1); (try clear hfz38_2); (try clear hfz6_0); (try clear hfz6_1); (try clear hfz6_2); (try clear hfz8_0); (try clear hfz8_1); (try clear hfz8_2)
          obtain ⟨kq, x45_32, rfl, HA, HJ32, BK218, HB⟩ := hcut
          cases kq with
          | zero => exact absurd HA.out (by simp [qM.j0])
          | succ kj32 =>
           have H := HA.out;clear HA;simp only [qM.j0] at H
           by_cases c39 : x45_32 = true
           · subst c39
             have H1 : (some 4) = some r := by rw [if_pos rfl] at H; exact H
             clear H;have H := H1;clear H1;obtain rfl := Option.some.inj H;go_wp2
             go_ret
             exact ⟨by first | rfl | (simp [qm, qn] <;> rfl) | (simp [*, qm, qn] <;> rfl), by repeat (first | (with_reducible first | exact HB.out | apply qa | apply q8 | apply qd | refine qf ?_ GE218.out) | exact HB.out)⟩
           · replace c39 := Bool.eq_false_iff.mpr c39
             subst c39
             have H1 : (if a0_1 = 0 then (some 0) else (some 19)) = some r := by rw [if_neg (show ¬ (false = true) by decide)] at H; exact H
             clear H;have H := H1;clear H1
             by_cases c40 : a0_1 = 0
             · rw [if_pos c40] at H
               have c40b0 : (a0_1 == 0) = true := beq_iff_eq.mpr c40;have c40b1 : (a0_1 != 0) = false := bne_eq_false_iff_eq.mpr c40;clear c40;obtain rfl := Option.some.inj H;have hcz41_0 : wc.cell? ⟨gb218, 0, none⟩ = some (.int .i64 a0_0) := (qe BK218.out 0).trans rfl;have hcz41_1 : wc.cell? ⟨gb218, 1, none⟩ = some (.int .i64 a0_1) := (qe BK218.out 1).trans rfl;have hcz41_2 : wc.cell? ⟨gb218, 2, none⟩ = some (.string a0_2) := (qe BK218.out 2).trans rfl;have hfz41_0 := q9 BK218.out 0;have hfz41_1 := q9 BK218.out 1;have hfz41_2 := q9 BK218.out 2;go_wp2
               go_ret
               exact ⟨by first | rfl | (simp [qm, qn] <;> rfl) | (simp [*, qm, qn] <;> rfl), by repeat (first | (with_reducible first | exact HB.out | apply qa | apply q8 | apply qd | refine qf ?_ GE218.out) | exact HB.out)⟩
             · rw [if_neg c40] at H
               have c40b0 : (a0_1 == 0) = false := beq_eq_false_iff_ne.mpr c40;have c40b1 : (a0_1 != 0) = true := bne_iff_ne.mpr c40;obtain rfl := Option.some.inj H;have hcz42_0 : wc.cell? ⟨gb218, 0, none⟩ = some (.int .i64 a0_0) := (qe BK218.out 0).trans rfl;have hcz42_1 : wc.cell? ⟨gb218, 1, none⟩ = some (.int .i64 a0_1) := (qe BK218.out 1).trans rfl;have hcz42_2 : wc.cell? ⟨gb218, 2, none⟩ = some (.string a0_2) := (qe BK218.out 2).trans rfl;have hfz42_0 := q9 BK218.out 0;have hfz42_1 := q9 BK218.out 1;have hfz42_2 := q9 BK218.out 2;go_wp2
               go_ret
               exact ⟨by first | rfl | (simp [qm, qn] <;> rfl) | (simp [*, qm, qn] <;> rfl), by repeat (first | (with_reducible first | exact HB.out | apply qa | apply q8 | apply qd | refine qf ?_ GE218.out) | exact HB.out)⟩
       · rw [if_neg c32] at H
         have c32b0 : (a0_0 == 3) = false := beq_eq_false_iff_ne.mpr c32;have c32b1 : (a0_0 != 3) = true := bne_iff_ne.mpr c32;obtain rfl := Option.some.inj H
         go_enter Tryz.func75, Tryz.ntmps75
         go_wp2_with (first | ((with_reducible refine qG (N := 1) rfl ?_); (try (refine qZ (by rfl) ?_; dsimp only)); refine qF ?hg (N := 1) ?hd (cs := #[.int .i64 a0_0, .int .i64 a0_1, .string a0_2]) (t := 42) ?hr ?_; (case hd => rfl); (case hg => rfl); (case hr => first | (go_simp; done) | (go_simp; rfl)); intro gb218 hg w43 hbox hb; have BK218 := Aside0.mk (hbox); have GW218 := Aside0.mk ((by rw [hg]; exact (qj (by repeat (first | (with_reducible first | exact HB.out | apply qa | apply q8 | apply qd) | exact HB.out))) : w.heap.size ≤ gb218)); have GE218 := Aside0.mk ((by rw [hg]; exact (qj (by repeat (first | (with_reducible first | exact HB.out | apply qa | apply q8 | apply qd) | exact HB.out))) : w.heap.size ≤ gb218)); replace HB := Aside0.mk (qt (by repeat (first | (with_reducible first | exact HB.out | apply qa | apply q8 | apply qd) | exact HB.out)) hb); clear hb hbox hg; have hcz44_0 : w43.cell? ⟨gb218, 0, none⟩ = some (.int .i64 a0_0) := (qe BK218.out 0).trans rfl; have hcz44_1 : w43.cell? ⟨gb218, 1, none⟩ = some (.int .i64 a0_1) := (qe BK218.out 1).trans rfl; have hcz44_2 : w43.cell? ⟨gb218, 2, none⟩ = some (.string a0_2) := (qe BK218.out 2).trans rfl; have hfz44_0 := q9 BK218.out 0; have hfz44_1 := q9 BK218.out 1; have hfz44_2 := q9 BK218.out 2))
         go_ret
         exact ⟨by first | rfl | (simp [qm, qn] <;> rfl) | (simp [*, qm, qn] <;> rfl), by repeat (first | (with_reducible first | exact HB.out | apply qa | apply q8 | apply qd | refine qf ?_ GE218.out) | exact HB.out)⟩
def qN.l0 : Nat → List (S42) → Int → Option (Int)
 | 0, _, _ => none
 | k + 1, x0, x3 => if x3 < (x0.length : Int) then (if 0 ≤ x3 then ((qM.f k ((qJ x0 x3).f0) ((qJ x0 x3).f1) ((qJ x0 x3).f2)).bind fun t220 => (if t220 = 0 then (qN.l0 k x0 (wrap64 (x3 + 1))) else (some t220))) else (none)) else (some 0)
def qN.f (k : Nat) (l0 : List (S42)) : Option (Int) := if (l0.length : Int) > 16 then (some 18) else (qN.l0 k l0 0)
set_option maxHeartbeats 8000000 in
set_option maxRecDepth 100000 in
theorem qN.calls (k : Nat) (A0 : Option Addr) (c0 : Nat) (l0 : List (S42)) (r : Int) (w : World) (hr0 : Kd.C k42 w A0 l0.length l0) (hc0 : l0.length ≤ c0) (h : qN.f k l0 = some r) :
 Calls Tryz.prog 56 #[.slice A0 l0.length c0] w fun e w' => e = .returned (.int .i64 r) ∧ Below w.heap.size w w' := by
 have hu42 := Tryz.underlying42;have HR0 := Aside0.mk hr0;have HC0 := Aside0.mk hc0;clear hr0 hc0;have HB := Aside0.mk (Below.refl w.heap.size w);have H : (if (l0.length : Int) > 16 then (some 18) else (qN.l0 k l0 0)) = some r := h;clear h
 by_cases c2 : (l0.length : Int) > 16
 · rw [if_pos c2] at H
   have c2b0 : decide (16 < (l0.length : Int)) = true := decide_eq_true c2;have c2b1 : decide (16 < l0.length) = true := decide_eq_true (by omega);clear c2;obtain rfl := Option.some.inj H
   go_enter Tryz.func56, Tryz.ntmps56
   go_wp2
   go_ret
   exact ⟨by first | rfl | (simp [qm, qn] <;> rfl) | (simp [*, qm, qn] <;> rfl), by repeat (first | (with_reducible first | exact HB.out | apply qa | apply q8 | apply qd) | exact HB.out)⟩
 · rw [if_neg c2] at H
   have c2b0 : decide (16 < (l0.length : Int)) = false := decide_eq_false c2;have c2b1 : decide (16 < l0.length) = false := decide_eq_false (by omega);clear c2;have H' := Aside0.mk H;clear H
   go_enter Tryz.func56, Tryz.ntmps56
   go_wp2
   go_loopg [3] k (fun kq v3 w' => ∃ (x3_1 : Int), v3 = .int .i64 x3_1 ∧ Aside0 (qN.l0 kq l0 x3_1 = some r) ∧ Aside0 (kq ≤ k) ∧ Aside0 (Below w.heap.size w w'))
   case atStart => exact ⟨(0), (by first | rfl | (simp; done) | (simp [*]; done)), H', ⟨Nat.le_refl _⟩, ⟨by repeat (first | (with_reducible first | exact HB.out | apply qa | apply q8 | apply qd) | exact HB.out)⟩⟩
   case round =>
    clear H'
    (try clear c2); (try clear c2b0); (try clear c2b1); (try clear p2)
    obtain ⟨x3_1, rfl, HA, HK1, HB⟩ := hrel
    cases gk with
    | zero => exact absurd HA.out (by simp [qN.l0])
    | succ k1 =>
     have H := HA.out;clear HA;simp only [qN.l0] at H
     by_cases c3 : x3_1 < (l0.length : Int)
     · rw [if_pos c3] at H
       have c3b0 : decide (x3_1 < (l0.length : Int)) = true := decide_eq_true c3;clear c3
       by_cases c4 : 0 ≤ x3_1
       · rw [if_pos c4] at H
         have c4b0 : decide (0 ≤ x3_1) = true := decide_eq_true c4;clear c4;replace H := Option.bind_eq_some_iff.mp H;obtain ⟨t220, A50, H⟩ := H;replace H : (if t220 = 0 then (qN.l0 k1 l0 (wrap64 (x3_1 + 1))) else (some t220)) = some r := H;have A5 := Aside0.mk A50;clear A50
         by_cases c6 : t220 = 0
         · rw [if_pos c6] at H
           have c6b0 : (t220 == 0) = true := beq_iff_eq.mpr c6;have c6b1 : (t220 != 0) = false := bne_eq_false_iff_eq.mpr c6;clear c6;have H' := Aside0.mk H;clear H;have p219 : 0 ≤ (x3_1 : Int) := of_decide_eq_true (by first | (with_reducible assumption) | assumption);have q219 : x3_1 < (l0.length : Int) := of_decide_eq_true (by first | (with_reducible assumption) | assumption);obtain ⟨ad219, e219, hx219_0, hx219_1, hx219_2⟩ := vj HR0.out x3_1 p219 q219;cases e219;replace hx219_0 := (HB.out.cell (World.block_lt_of_cell? w _ hx219_0)).trans hx219_0;replace hx219_1 := (HB.out.cell (World.block_lt_of_cell? w _ hx219_1)).trans hx219_1;replace hx219_2 := (HB.out.cell (World.block_lt_of_cell? w _ hx219_2)).trans hx219_2;replace p219 := eq_true p219;replace q219 := eq_true q219
           go_wp2_with (first | ((with_reducible refine qC (f := 75) rfl ?_); refine z6 (some 18) rfl rfl Tryz.func75 (by kernel_rfl) rfl #[.agg #[.int .i64 ((qJ l0 x3_1).f0), .int .i64 ((qJ l0 x3_1).f1), .string ((qJ l0 x3_1).f2)]] rfl (by (try simp only [List.map_toArray, List.map_cons, List.map_nil]); first | done | rfl | (simp only [List.length_drop, List.length_take]; rfl)) ?_; (with_reducible refine (qM.calls k1 ((qJ l0 x3_1).f0) ((qJ l0 x3_1).f1) ((qJ l0 x3_1).f2) t220 _ A5.out).mono ?_); rintro e w7 ⟨rfl, hb⟩; refine ⟨_, rfl, ?_⟩; replace HB := Aside0.mk (qt (by repeat (first | (with_reducible first | exact HB.out | apply qa | apply q8 | apply qd) | exact HB.out)) hb); (try clear hb); (try clear hb2); (try clear hk); (try clear hi)))
           go_roundg k1
           case measure => have := HK1.out; omega
           case rel => exact ⟨(wrap64 (x3_1 + 1)), (by first | rfl | (simp; done) | (simp [*]; done)), H', ⟨by have := HK1.out; omega⟩, ⟨by repeat (first | (with_reducible first | exact HB.out | apply qa | apply q8 | apply qd) | exact HB.out)⟩⟩
         · rw [if_neg c6] at H
           have c6b0 : (t220 == 0) = false := beq_eq_false_iff_ne.mpr c6;have c6b1 : (t220 != 0) = true := bne_iff_ne.mpr c6;obtain rfl := Option.some.inj H;have p219 : 0 ≤ (x3_1 : Int) := of_decide_eq_true (by first | (with_reducible assumption) | assumption);have q219 : x3_1 < (l0.length : Int) := of_decide_eq_true (by first | (with_reducible assumption) | assumption);obtain ⟨ad219, e219, hx219_0, hx219_1, hx219_2⟩ := vj HR0.out x3_1 p219 q219;cases e219;replace hx219_0 := (HB.out.cell (World.block_lt_of_cell? w _ hx219_0)).trans hx219_0;replace hx219_1 := (HB.out.cell (World.block_lt_of_cell? w _ hx219_1)).trans hx219_1;replace hx219_2 := (HB.out.cell (World.block_lt_of_cell? w _ hx219_2)).trans hx219_2;replace p219 := eq_true p219;replace q219 := eq_true q219
           go_wp2_with (first | ((with_reducible refine qC (f := 75) rfl ?_); refine z6 (some 18) rfl rfl Tryz.func75 (by kernel_rfl) rfl #[.agg #[.int .i64 ((qJ l0 x3_1).f0), .int .i64 ((qJ l0 x3_1).f1), .string ((qJ l0 x3_1).f2)]] rfl (by (try simp only [List.map_toArray, List.map_cons, List.map_nil]); first | done | rfl | (simp only [List.length_drop, List.length_take]; rfl)) ?_; (with_reducible refine (qM.calls k1 ((qJ l0 x3_1).f0) ((qJ l0 x3_1).f1) ((qJ l0 x3_1).f2) t220 _ A5.out).mono ?_); rintro e w8 ⟨rfl, hb⟩; refine ⟨_, rfl, ?_⟩; replace HB := Aside0.mk (qt (by repeat (first | (with_reducible first | exact HB.out | apply qa | apply q8 | apply qd) | exact HB.out)) hb); (try clear hb); (try clear hb2); (try clear hk); (try clear hi)))
           go_ret
           exact ⟨by first | rfl | (simp [qm, qn] <;> rfl) | (simp [*, qm, qn] <;> rfl), by repeat (first | (with_reducible first | exact HB.out | apply qa | apply q8 | apply qd) | exact HB.out)⟩
       · rw [if_neg c4] at H
         exact absurd H (by simp)
     · rw [if_neg c3] at H
       have c3b0 : decide (x3_1 < (l0.length : Int)) = false := decide_eq_false c3;clear c3;obtain rfl := Option.some.inj H;go_wp2
       go_ret
       exact ⟨by first | rfl | (simp [qm, qn] <;> rfl) | (simp [*, qm, qn] <;> rfl), by repeat (first | (with_reducible first | exact HB.out | apply qa | apply q8 | apply qd) | exact HB.out)⟩
def qU.l0 : Nat → Int → Int → Option (Int)
 | 0, _, _ => none
 | k + 1, x0, x3 => if x0 > 0 then (qU.l0 k (IntKind.u64.wrap (Int.tdiv x0 256)) (wrap64 (x3 + 1))) else (some x3)
def qU.f (k : Nat) (a0 : Int) : Option (Int) := qU.l0 k a0 0
set_option maxHeartbeats 8000000 in
set_option maxRecDepth 100000 in
theorem qU.calls (k : Nat) (a0 : Int) (r : Int) (w : World) (h : qU.f k a0 = some r) :
 Calls Tryz.prog 76 #[.int .u64 a0] w fun e w' => e = .returned (.int .i64 r) ∧ qE w w' := by
 have H : (qU.l0 k a0 0) = some r := h;clear h;have H' := Aside0.mk H;clear H
 go_enter Tryz.func76, Tryz.ntmps76
 go_wp2
 go_loopg [0, 3] k (fun kq v0 v3 w' => ∃ (x0_1 : Int) (x3_1 : Int), v0 = .int .u64 x0_1 ∧ v3 = .int .i64 x3_1 ∧ Aside0 (qU.l0 kq x0_1 x3_1 = some r) ∧ Aside0 (kq ≤ k) ∧ qE w w')
 case atStart => exact ⟨(a0), (0), (by first | rfl | (simp; done) | (simp [*]; done)), (by first | rfl | (simp; done) | (simp [*]; done)), H', ⟨Nat.le_refl _⟩, by repeat (first | exact qE.refl _ | apply qE.step)⟩
 case round =>
  clear H';obtain ⟨x0_1, x3_1, rfl, rfl, HA, HK1, ⟨m1, rfl⟩⟩ := hrel
  cases gk with
  | zero => exact absurd HA.out (by simp [qU.l0])
  | succ k1 =>
   have H := HA.out;clear HA;simp only [qU.l0] at H
   by_cases c2 : x0_1 > 0
   · rw [if_pos c2] at H
     have c2b0 : decide (0 < x0_1) = true := decide_eq_true c2;clear c2;have H' := Aside0.mk H;clear H;go_wp2
     go_roundg k1
     case measure => have := HK1.out; omega
     case rel => exact ⟨(IntKind.u64.wrap (Int.tdiv x0_1 256)), (wrap64 (x3_1 + 1)), (by first | rfl | (simp; done) | (simp [*]; done)), (by first | rfl | (simp; done) | (simp [*]; done)), H', ⟨by have := HK1.out; omega⟩, by repeat (first | exact qE.refl _ | apply qE.step)⟩
   · rw [if_neg c2] at H
     have c2b0 : decide (0 < x0_1) = false := decide_eq_false c2;clear c2;obtain rfl := Option.some.inj H;go_wp2
     go_ret
     exact ⟨by first | rfl | (simp; done) | (simp [*]; done), by repeat (first | exact qE.refl _ | apply qE.step)⟩
def qH.l0 : Nat → Int → Int → List Int → Int → Option (List Int)
 | 0, _, _, _, _ => none
 | k + 1, x0, x2, x7, x8 => if x8 ≥ 0 then (if 0 ≤ x8 then (if x8 < (x7.length : Int) then (qH.l0 k (IntKind.u64.wrap (Int.tdiv x0 256)) x2 (x7.set (x8 : Int).toNat (Go.bits .xor .u8 ((Int.tmod x0 256) % 256) x2)) (wrap64 (x8 - 1))) else (none)) else (none)) else (some x7)
def qH.f (k : Nat) (a0 : Int) (a1 : Int) (a2 : Int) : Option (List Int) := if 0 ≤ a1 then (if (a1 : Int).toNat ≤ 281474976710656 then (qH.l0 k a0 a2 (List.replicate (a1 : Int).toNat 0) (wrap64 (a1 - 1))) else (none)) else (none)
set_option maxHeartbeats 8000000 in
set_option maxRecDepth 100000 in
theorem qH.calls (k : Nat) (a0 : Int) (a1 : Int) (a2 : Int) (r : List Int) (w : World) (h : qH.f k a0 a1 a2 = some r) :
 Calls Tryz.prog 77 #[.int .u64 a0, .int .i64 a1, .int .u8 a2] w fun e w' => ∃ v0_ : Value, e = .returned (v0_) ∧ Kd.R (Kd.int .u8) 5 w' w.heap.size (fun _ => True) v0_ r ∧ Below w.heap.size w w' := by
 have HB := Aside0.mk (Below.refl w.heap.size w);have H : (if 0 ≤ a1 then (if (a1 : Int).toNat ≤ 281474976710656 then (qH.l0 k a0 a2 (List.replicate (a1 : Int).toNat 0) (wrap64 (a1 - 1))) else (none)) else (none)) = some r := h;clear h
 by_cases c4 : 0 ≤ a1
 · rw [if_pos c4] at H
   have c4b0 := eq_true c4;have c4b1 : decide (0 ≤ a1) = true := decide_eq_true c4;clear c4
   by_cases c5 : (a1 : Int).toNat ≤ 281474976710656
   · rw [if_pos c5] at H
     have c5b0 := eq_true c5;have c5b1 : decide ((a1 : Int).toNat ≤ 281474976710656) = true := decide_eq_true c5;clear c5;obtain ⟨y221, hy221⟩ : ∃ y_ : List Int, y_ = (List.replicate (a1 : Int).toNat 0) := ⟨_, rfl⟩
     replace H : (qH.l0 k a0 a2 y221 (wrap64 (a1 - 1))) = some r := by first | (rw [hy221]; with_reducible exact H) | (have H2_ := (Option.bind_some _ _).symm.trans H; rw [hy221]; with_reducible exact H2_) | (have H2_ := (Option.bind_some _ _).symm.trans H; with_reducible exact H2_) | with_reducible exact H | (rw [hy221]; exact H) | exact H
     have Ny221 := Aside0.mk hy221;clear hy221;have H' := Aside0.mk H;clear H
     go_enter Tryz.func77, Tryz.ntmps77
     go_wp2_with (first | ((with_reducible refine qG (N := 10) rfl ?_); refine Kd.R_make (Kd.int .u8) _ 5 rfl (N := 10) rfl 76 _ _ rfl a1 rfl rfl Tryz.underlying76 (.int .u8 0) 1 zV rfl (by decide) (by omega) 0 (ok := fun _ => True) (okp := fun _ => True) rfl (fun _ hk => hk) trivial (of_decide_eq_true (by first | (with_reducible assumption) | assumption)) (Nat.le_trans (Nat.mul_le_mul_right _ (of_decide_eq_true (by first | (with_reducible assumption) | assumption) : a1.toNat ≤ 281474976710656)) (by omega)) (Below.refl _ _) (Nat.le_refl _) ?_; intro v222 w6 ho7 hb hg_ hnew_; clear hg_ hnew_; (first | rw [← Ny221.out] at ho7 | (simp only [Int.reduceToNat] at ho7; rw [← Ny221.out] at ho7)); have HO223 := Aside0.mk (Kd.R_lower ho7 (qj (by repeat (first | (with_reducible first | exact HB.out | apply qa | apply q8 | apply qd) | exact HB.out)))); replace HB := Aside0.mk (qt (by repeat (first | (with_reducible first | exact HB.out | apply qa | apply q8 | apply qd) | exact HB.out)) hb); clear hb ho7))
     go_loopg [0, 8] k (fun kq v0 v8 w' => ∃ (x0_1 : Int) (x7_1 : List Int) (x8_1 : Int), v0 = .int .u64 x0_1 ∧ v8 = .int .i64 x8_1 ∧ Aside0 (qH.l0 kq x0_1 a2 x7_1 x8_1 = some r) ∧ Aside0 (kq ≤ k) ∧ Aside0 (Kd.R (Kd.int .u8) 5 w' w.heap.size (fun _ => True) v222 x7_1) ∧ Aside0 (Below w.heap.size w w'))
     case atStart => exact ⟨(a0), (y221), (wrap64 (a1 - 1)), (by first | rfl | (simp; done) | (simp [*]; done)), (by first | rfl | (simp; done) | (simp [*]; done)), H', ⟨Nat.le_refl _⟩, ⟨by (with_reducible repeat (first | apply Kd.R_alloc | apply Kd.R_drewN | apply Kd.R_drew)); exact HO223.out⟩, ⟨by repeat (first | (with_reducible first | exact HB.out | apply qa | apply q8 | apply qd) | exact HB.out)⟩⟩
     case round =>
      clear H'
      (try clear p2); (try clear c4); (try clear c4b0); (try clear c4b1); (try clear c5); (try clear c5b0); (try clear c5b1); (try clear p6); (try clear c7)
      obtain ⟨x0_1, x7_1, x8_1, rfl, rfl, HA, HK1, HO_7, HB⟩ := hrel
      cases gk with
      | zero => exact absurd HA.out (by simp [qH.l0])
      | succ k1 =>
       have H := HA.out;clear HA;simp only [qH.l0] at H
       by_cases c8 : x8_1 ≥ 0
       · rw [if_pos c8] at H
         have c8b0 : decide (0 ≤ x8_1) = true := decide_eq_true c8;clear c8
         by_cases c9 : 0 ≤ x8_1
         · rw [if_pos c9] at H
           have c9b0 : decide (0 ≤ x8_1) = true := decide_eq_true c9;clear c9
           by_cases c10 : x8_1 < (x7_1.length : Int)
           · rw [if_pos c10] at H
             have c10b0 : decide (x8_1 < (x7_1.length : Int)) = true := decide_eq_true c10;clear c10;obtain ⟨y224, hy224⟩ : ∃ y_ : List Int, y_ = (x7_1.set (x8_1 : Int).toNat (Go.bits .xor .u8 ((Int.tmod x0_1 256) % 256) a2)) := ⟨_, rfl⟩
             replace H : (qH.l0 k1 (IntKind.u64.wrap (Int.tdiv x0_1 256)) a2 y224 (wrap64 (x8_1 - 1))) = some r := by first | (rw [hy224]; with_reducible exact H) | (have H2_ := (Option.bind_some _ _).symm.trans H; rw [hy224]; with_reducible exact H2_) | (have H2_ := (Option.bind_some _ _).symm.trans H; with_reducible exact H2_) | with_reducible exact H | (rw [hy224]; exact H) | exact H
             have Ny224 := Aside0.mk hy224;clear hy224;have H' := Aside0.mk H;clear H;have p11 : 0 ≤ (x8_1 : Int) := of_decide_eq_true (by first | (with_reducible assumption) | assumption);have q11 : (x8_1 : Int) < ((x7_1.length : Int) : Int) := of_decide_eq_true (by first | (with_reducible assumption) | assumption);obtain ⟨go11, co11, eo11, gb11, gl11, cl11, HG11⟩ := Kd.R_form HO_7.out (by omega)
             (first | cases eo11 | (injection eo11 with ea_ en_ ec_; (first | subst ea_ | (injection ea_ with ea_; subst ea_)); subst ec_; clear en_))
             have GB11 := Aside0.mk gb11;have GG11 := Aside0.mk HG11;clear gb11 gl11 HG11;obtain ⟨hx11_0, hf11_0⟩ := Kd.R_celln 0 HO_7.out (x8_1 : Int) p11 q11;replace p11 := eq_true p11;replace q11 := eq_true q11;have HP12 := Kd.R_putg HO_7.out (x8_1 : Int) (Go.bits .xor .u8 ((Int.tmod x0_1 256) % 256) a2)
             go_wp2_with (first | ((with_reducible refine gate_store (t := 5) (p := 24) rfl ?_); refine store_event (t := 5) (p := 24) (v := ?vo_w13) (w1 := (wr.setCell ⟨go11, (x8_1 : Int).toNat, none⟩ (.int .u8 (Go.bits .xor .u8 ((Int.tmod x0_1 256) % 256) a2)))) ?hg ?ho ?hn ?hr ?_; (case ho => rfl); (case hg => rfl); (case hn => rfl); (case hr => first | (go_simp; done) | (go_simp; rfl)); intro w13 hw; have hg : wr.grownBy w13 (some go11) := (by rw [hw]; exact HP12.2); have hp_ : Kd.R (Kd.int .u8) 5 w13 w.heap.size (fun _ => True) (.slice (some ⟨go11, 0, none⟩) x7_1.length co11) y224 := (by rw [hw, Ny224.out]; exact HP12.1); clear HP12; replace HO_7 := Aside0.mk (hp_); replace HB := Aside0.mk ((by rw [hw]; exact qf (HB.out) GB11.out : Below w.heap.size w w13)); clear hg hw hp_))
             go_roundg k1
             case measure => have := HK1.out; omega
             case rel => exact ⟨(IntKind.u64.wrap (Int.tdiv x0_1 256)), (y224), (wrap64 (x8_1 - 1)), (by first | rfl | (simp; done) | (simp [*]; done)), (by first | rfl | (simp; done) | (simp [*]; done)), H', ⟨by have := HK1.out; omega⟩, ⟨by (with_reducible repeat (first | apply Kd.R_alloc | apply Kd.R_drewN | apply Kd.R_drew)); exact HO_7.out⟩, ⟨by repeat (first | (with_reducible first | exact HB.out | apply qa | apply q8 | apply qd) | exact HB.out)⟩⟩
           · rw [if_neg c10] at H
             exact absurd H (by simp)
         · rw [if_neg c9] at H
           exact absurd H (by simp)
       · rw [if_neg c8] at H
         have c8b0 : decide (0 ≤ x8_1) = false := decide_eq_false c8;clear c8;obtain rfl := Option.some.inj H;go_wp2
         go_ret
         exact ⟨_, by first | rfl | (simp [qm, qn] <;> rfl) | (simp [*, qm, qn] <;> rfl), by (with_reducible repeat (first | apply Kd.R_alloc | apply Kd.R_drewN | apply Kd.R_drew)); exact HO_7.out, by repeat (first | (with_reducible first | exact HB.out | apply qa | apply q8 | apply qd) | exact HB.out)⟩
   · rw [if_neg c5] at H
     exact absurd H (by simp)
 · rw [if_neg c4] at H
   exact absurd H (by simp)
end Go.Proofs.YtggbhdcgfnjogaaGreatDoor.PPc

