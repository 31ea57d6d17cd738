import Derived.Test.YtggbhdcgfnjogaaDoorQPPlx0
import Derived.Test.YtggbhdcgfnjogaaDoorQPPlx15
namespace Go.Proofs.YtggbhdcgfnjogaaDoor.PPl
open Go.RowKit Go.Proofs.YtggbhdcgfnjogaaDoorW.PrintWords Go.Proofs.YtggbhdcgfnjogaaDoorW.PrintLast Go.Proofs.YtggbhdcgfnjogaaDoorW.PrintMore
set_option linter.unusedVariables false
set_option linter.unusedSimpArgs false
def Rd (W : World) (rb : Nat) (s : ByteArray) (p : Nat) : Prop := W.heap[rb]? = some (.cells #[.string s, .int .i64 (p : Int)] 128 (0, 0))
def brokenV (why : Int) : List PanicEntry := [{ v := .iface 157 (.agg #[.int .i64 why]), recovered := false }]
theorem Rd.c0 {W : World} {rb : Nat} {s : ByteArray} {p : Nat} (h : Rd W rb s p) : W.cell? ⟨rb, 0, none⟩ = some (.string s) := (blk_cell h 0).trans rfl
theorem Rd.c1 {W : World} {rb : Nat} {s : ByteArray} {p : Nat} (h : Rd W rb s p) : W.cell? ⟨rb, 1, none⟩ = some (.int .i64 (p : Int)) := (blk_cell h 1).trans rfl
theorem grown_set {w W : World} {b : Nat} (h : w.grownBy W (some b)) (i : Nat) (v : Value) : w.grownBy (W.setCell ⟨b, i, none⟩ v) (some b) := by
 refine ⟨h.os, h.tape, h.output, by simpa [World.setCell] using h.size, fun k hk hne => ?_⟩
 have hkb : k ≠ b := fun e => hne (by rw [e])
 exact (heap_setCell_other W ⟨b, i, none⟩ k v hkb).trans (h.block k hk hne)
theorem fail_ok (A : Option Addr) (why : Int) (w : World) : Calls Tryd.prog 83 #[.pointer A, .bool false, .int .i64 why] w fun e w' => e = .returned (.tuple #[]) ∧ w' = w := by
 go_enter Tryd.func83, Tryd.ntmps83
 go_wp2
 go_end0
 exact ⟨rfl, rfl⟩
theorem fail_bad (A : Option Addr) (why : Int) (w : World) : Calls Tryd.prog 83 #[.pointer A, .bool true, .int .i64 why] w fun e w' => e = .panicked (brokenV why) ∧ w' = w := by
 go_enter Tryd.func83, Tryd.ntmps83
 go_wp2
 exact ⟨rfl, rfl, rfl⟩
set_option maxHeartbeats 400000 in
set_option maxRecDepth 2000 in
theorem next_ok (rb : Nat) (s : ByteArray) (p : Nat) (w : World) (hR : Rd w rb s p) (hp : p < s.size) (hs : s.size ≤ 1000000000) :
 Calls Tryd.prog 82 #[.pointer (some ⟨rb, 0, none⟩)] w fun e w' => e = .returned (.int .u8 (bt s (p : Int))) ∧ Rd w' rb s (p + 1) ∧ w.grownBy w' (some rb) := by
 have h0 := hR.c0
 have h1 := hR.c1
 have hf := blk_frozen hR 1
 have d1 : decide ((s.size : Int) ≤ (p : Int)) = false := decide_eq_false (by omega)
 have d4 : decide (s.size ≤ p) = false := decide_eq_false (by omega)
 have d2 : decide ((p : Int) < (s.size : Int)) = true := decide_eq_true (by omega)
 have d3 : decide (p < s.size) = true := decide_eq_true hp
 have hb : ∀ h : p < s.size, ((s[p]'h).toNat : Int) = bt s (p : Int) := fun h => bt_at s (p : Int) h
 have HR := Aside0.mk hR
 clear hR
 go_enter Tryd.func82, Tryd.ntmps82
 go_wp2_with fail
 go_quiet (first | (go_at_call 83; exact Calls.quiet_of_same (fail_ok _ 11 _)))
 go_wp2
 have HR2 : Rd ((w.drewN nq).setCell ⟨rb, 1, none⟩ (.int .i64 ((p : Int) + 1))) rb s (p + 1) := blk_put (blk_drewN HR.out nq) 1 _ (by simp)
 have HG2 : w.grownBy ((w.drewN nq).setCell ⟨rb, 1, none⟩ (.int .i64 ((p : Int) + 1))) (some rb) := grown_set (grown_of_below (pw_below_drewN (Below.refl _ _) nq) _) _ _
 generalize (w.drewN nq).setCell ⟨rb, 1, none⟩ (.int .i64 ((p : Int) + 1)) = W2 at *
 have h0 := HR2.c0
 have h1 := HR2.c1
 rw [show ((p + 1 : Nat) : Int) = (p : Int) + 1 by omega] at h1
 go_quiet (fail)
 go_wp2
 go_ret
 exact ⟨rfl, blk_drewN HR2 _, ⟨HG2.os, HG2.tape, HG2.output, HG2.size, HG2.block⟩⟩
theorem next_short (rb : Nat) (s : ByteArray) (p : Nat) (w : World) (hR : Rd w rb s p) (hp : s.size ≤ p) :
 Calls Tryd.prog 82 #[.pointer (some ⟨rb, 0, none⟩)] w fun e w' => e = .panicked (brokenV 11) ∧ w.grownBy w' (some rb) := by
 have h0 := hR.c0
 have h1 := hR.c1
 have d1 : decide ((s.size : Int) ≤ (p : Int)) = true := decide_eq_true (by omega)
 clear hR
 go_enter Tryd.func82, Tryd.ntmps82
 go_wp2_with fail
 go_region_dies
 all_goals (refine (fail_bad _ 11 _).mono ?_; rintro e w' ⟨rfl, rfl⟩)
 all_goals exact ⟨rfl, rfl, grown_of_below (below_drew (Below.refl _ _)) _⟩
def valV (x : S84) : Value := .agg #[.int .i64 x.f0, .int .i64 x.f1, .string x.f2]
theorem grown_far {w W : World} {row : Option Nat} (h : w.grownBy W row) (g : Nat) (hg : w.heap.size ≤ g) (i : Nat) (v : Value) : w.grownBy (W.setCell ⟨g, i, none⟩ v) row := by
 refine ⟨h.os, h.tape, h.output, by simpa [World.setCell] using h.size, fun k hk hne => ?_⟩
 exact (heap_setCell_other W ⟨g, i, none⟩ k v (by show k ≠ g; omega)).trans (h.block k hk hne)
theorem grown_alloc {w W : World} {o : Obj} {row : Option Nat} (h : (w.alloc o).grownBy W row) : w.grownBy W row := (World.grownBy_alloc w o row).trans h
theorem end3 {w w1 : World} {rb g q : Nat} {s : ByteArray} (hg : w.heap.size ≤ g) (hrb : rb < w.heap.size) (HR : Rd w1 rb s q) (HG : w.grownBy w1 (some rb)) {a b c : Value} (a' b' c' : Value) (hh : w1.heap[g]? = some (.cells #[a, b, c] 84 (0, 0))) :
 (((w1.setCell ⟨g, 0, none⟩ a').setCell ⟨g, 1, none⟩ b').setCell ⟨g, 2, none⟩ c').heap[g]? = some (.cells #[a', b', c'] 84 (0, 0))
 ∧ Rd (((w1.setCell ⟨g, 0, none⟩ a').setCell ⟨g, 1, none⟩ b').setCell ⟨g, 2, none⟩ c') rb s q ∧ w.grownBy (((w1.setCell ⟨g, 0, none⟩ a').setCell ⟨g, 1, none⟩ b').setCell ⟨g, 2, none⟩ c') (some rb) := by
 have hne : rb ≠ g := by omega
 refine ⟨blk_put (blk_put (blk_put hh 0 a' rfl) 1 b' rfl) 2 c' rfl, ?_, grown_far (grown_far (grown_far HG g hg _ _) g hg _ _) g hg _ _⟩
 unfold Rd
 rw [heap_setCell_other _ _ rb _ hne, heap_setCell_other _ _ rb _ hne, heap_setCell_other _ _ rb _ hne]
 exact HR
theorem new3 {w w1 : World} {rb : Nat} {a b c : Value} (hrb : rb < w.heap.size) (hg : (w.alloc (.cells #[a, b, c] 84)).grownBy w1 (some rb)) : w1.heap[w.heap.size]? = some (.cells #[a, b, c] 84 (0, 0)) := (hg.block w.heap.size (by simp) (by simp; omega)).trans (heap_alloc_new w _)
theorem new3c {W : World} {g : Nat} {a b c : Value} (hh : W.heap[g]? = some (.cells #[a, b, c] 84 (0, 0))) : W.cell? ⟨g, 0, none⟩ = some a ∧ W.cell? ⟨g, 1, none⟩ = some b ∧ W.cell? ⟨g, 2, none⟩ = some c ∧ W.frozen? ⟨g, 0, none⟩ = false ∧ W.frozen? ⟨g, 1, none⟩ = false ∧ W.frozen? ⟨g, 2, none⟩ = false :=
 ⟨(blk_cell hh 0).trans rfl, (blk_cell hh 1).trans rfl, (blk_cell hh 2).trans rfl, blk_frozen hh 0, blk_frozen hh 1, blk_frozen hh 2⟩
set_option maxHeartbeats 2000000 in
theorem truth_ok (rb : Nat) (s : ByteArray) (p : Nat) (w : World) (hR : Rd w rb s p) (hp : p < s.size) (hs : s.size ≤ 1000000000) (hb : bt s (p : Int) ≤ 1) :
 Calls Tryd.prog 103 #[.pointer (some ⟨rb, 0, none⟩)] w fun e w' => e = .returned (.agg #[.int .i64 1, .int .i64 (bt s (p : Int)), .string ⟨#[]⟩]) ∧ Rd w' rb s (p + 1) ∧ w.grownBy w' (some rb) := by
 have hrb := blk_lt hR
 have HR := Aside0.mk hR
 clear hR
 have b0 := (bt_range s (p : Int)).1
 obtain ⟨b, hbe⟩ : ∃ b, bt s (p : Int) = b := ⟨_, rfl⟩
 have HBE := Aside0.mk hbe
 rw [hbe] at hb b0 ⊢
 clear hbe
 have d1 : decide (1 < b) = false := decide_eq_false (by omega)
 go_enter Tryd.func103, Tryd.ntmps103
 go_wp2_with (first
  | (go_at_call 82; go_must (refine (next_ok rb s p _ (blk_alloc HR.out _) hp hs).mono ?_; rintro e w1 ⟨rfl, hR1, hg1⟩; rw [HBE.out]; have HR1 := Aside0.mk hR1; have HG1 := Aside0.mk (grown_alloc hg1); have HH := Aside0.mk (new3 hrb hg1); obtain ⟨hc0, hc1, hc2, hf0, hf1, hf2⟩ := new3c HH.out; clear hR1 hg1))
  | (go_at_call 83; go_must (refine (fail_ok _ 14 _).mono ?_; rintro e w2 ⟨rfl, rfl⟩)))
 obtain ⟨E0, E1, E2⟩ := end3 (Nat.le_refl _) hrb HR1.out HG1.out (.int .i64 1) (.int .i64 b) (.string ⟨#[]⟩) HH.out
 refine bodyPost_ret (results_cell_row rfl _ _ w.heap.size 84 _ (0, 0) _ rfl E0 Tryd.underlying84 rfl (by kernel_rfl)) rfl ?_
 exact ⟨rfl, E1, E2⟩
set_option maxHeartbeats 2000000 in
theorem truth_tag (rb : Nat) (s : ByteArray) (p : Nat) (w : World) (hR : Rd w rb s p) (hp : p < s.size) (hs : s.size ≤ 1000000000) (hb : 1 < bt s (p : Int)) :
 Calls Tryd.prog 103 #[.pointer (some ⟨rb, 0, none⟩)] w fun e w' => e = .panicked (brokenV 14) ∧ w.grownBy w' (some rb) := by
 have hrb := blk_lt hR
 have HR := Aside0.mk hR
 clear hR
 obtain ⟨b, hbe⟩ : ∃ b, bt s (p : Int) = b := ⟨_, rfl⟩
 have HBE := Aside0.mk hbe
 rw [hbe] at hb
 clear hbe
 have d1 : decide (1 < b) = true := decide_eq_true (by omega)
 go_enter Tryd.func103, Tryd.ntmps103
 go_wp2_with (first
  | (go_at_call 82; go_must (refine (next_ok rb s p _ (blk_alloc HR.out _) hp hs).mono ?_; rintro e w1 ⟨rfl, hR1, hg1⟩; rw [HBE.out]; have HG1 := Aside0.mk (grown_alloc hg1); clear hR1 hg1))
  | (go_at_call 83; go_must (refine (fail_bad _ 14 _).mono ?_; rintro e w2 ⟨rfl, rfl⟩)))
 exact ⟨rfl, rfl, HG1.out⟩
set_option maxHeartbeats 2000000 in
theorem truth_short (rb : Nat) (s : ByteArray) (p : Nat) (w : World) (hR : Rd w rb s p) (hp : s.size ≤ p) :
 Calls Tryd.prog 103 #[.pointer (some ⟨rb, 0, none⟩)] w fun e w' => e = .panicked (brokenV 11) ∧ w.grownBy w' (some rb) := by
 have HR := Aside0.mk hR
 clear hR
 go_enter Tryd.func103, Tryd.ntmps103
 go_wp2_with (first
  | (go_at_call 82; go_must (refine (next_short rb s p _ (blk_alloc HR.out _) hp).mono ?_; rintro e w1 ⟨rfl, hg1⟩; have HG1 := Aside0.mk (grown_alloc hg1); clear hg1)))
 exact ⟨rfl, rfl, HG1.out⟩
set_option maxHeartbeats 2000000 in
theorem number_ok (k rb : Nat) (s : ByteArray) (p q : Nat) (v : Int) (w : World) (hR : Rd w rb s p) (hc : bits_ReadSvarint.f k s (p : Int) = some (v, (q : Int), 0)) :
 Calls Tryd.prog 108 #[.pointer (some ⟨rb, 0, none⟩)] w fun e w' => e = .returned (.agg #[.int .i64 2, .int .i64 v, .string ⟨#[]⟩]) ∧ Rd w' rb s q ∧ w.grownBy w' (some rb) := by
 have hrb := blk_lt hR
 have h0 := hR.c0
 have h1 := hR.c1
 have HR := Aside0.mk hR
 have HC := Aside0.mk hc
 clear hR hc
 go_enter Tryd.func108, Tryd.ntmps108
 go_wp2_with fail
 go_quiet (first | (go_at_call 127; exact Calls.quiet_of ((bits_ReadSvarint.calls k s (p : Int) v (q : Int) 0 _ HC.out).mono fun _ _ h => ⟨h.1, h.2.out⟩)))
 have HR1 : Rd ((w.alloc (.cells #[.int .i64 0, .int .i64 0, .string ⟨#[]⟩] 84)).drewN nq) rb s p := blk_drewN (blk_alloc HR.out _) _
 have HG1 : (w.alloc (.cells #[.int .i64 0, .int .i64 0, .string ⟨#[]⟩] 84)).grownBy ((w.alloc (.cells #[.int .i64 0, .int .i64 0, .string ⟨#[]⟩] 84)).drewN nq) (some rb) := grown_of_below (pw_below_drewN (Below.refl _ _) nq) _
 generalize (w.alloc (.cells #[.int .i64 0, .int .i64 0, .string ⟨#[]⟩] 84)).drewN nq = W1 at *
 have hf := blk_frozen HR1 1
 have h0 := HR1.c0
 have h1 := HR1.c1
 have HH := Aside0.mk (new3 hrb HG1)
 have hne : ¬ w.heap.size = rb := by omega
 have hne2 : ¬ rb = w.heap.size := by omega
 obtain ⟨hc0, hc1, hc2, hf0, hf1, hf2⟩ := new3c HH.out
 have HG1 := Aside0.mk (grown_alloc HG1)
 have HR1 := Aside0.mk HR1
 go_wp2_with (first | (go_at_call 83; go_must (refine (fail_ok _ 0 _).mono ?_; rintro e w2 ⟨rfl, rfl⟩; have HR2 : Aside0 (Rd (w2.setCell ⟨rb, 1, none⟩ (.int .i64 (q : Int))) rb s q) := ⟨blk_put HR1.out 1 _ (by simp)⟩; have HG2 := Aside0.mk (grown_set HG1.out 1 (.int .i64 (q : Int))); have HH2 := Aside0.mk ((heap_setCell_other w2 ⟨rb, 1, none⟩ w.heap.size (.int .i64 (q : Int)) hne).trans HH.out))))
 obtain ⟨E0, E1, E2⟩ := end3 (Nat.le_refl _) hrb HR2.out HG2.out (.int .i64 2) (.int .i64 v) (.string ⟨#[]⟩) HH2.out
 refine bodyPost_ret (results_cell_row rfl _ _ w.heap.size 84 _ (0, 0) _ rfl E0 Tryd.underlying84 rfl (by kernel_rfl)) rfl ?_
 exact ⟨rfl, E1, E2⟩
set_option maxHeartbeats 2000000 in
theorem number_bad (k rb : Nat) (s : ByteArray) (p : Nat) (q er : Int) (v : Int) (w : World) (hR : Rd w rb s p) (hc : bits_ReadSvarint.f k s (p : Int) = some (v, q, er)) (he : ¬ er = 0) :
 Calls Tryd.prog 108 #[.pointer (some ⟨rb, 0, none⟩)] w fun e w' => e = .panicked (brokenV er) ∧ w.grownBy w' (some rb) := by
 have hrb := blk_lt hR
 have h0 := hR.c0
 have h1 := hR.c1
 have HR := Aside0.mk hR
 have HC := Aside0.mk hc
 clear hR hc
 go_enter Tryd.func108, Tryd.ntmps108
 go_wp2_with fail
 go_quiet (first | (go_at_call 127; exact Calls.quiet_of ((bits_ReadSvarint.calls k s (p : Int) v q er _ HC.out).mono fun _ _ h => ⟨h.1, h.2.out⟩)))
 have HG1 := Aside0.mk (grown_alloc (grown_of_below (w := w.alloc (.cells #[.int .i64 0, .int .i64 0, .string ⟨#[]⟩] 84)) (pw_below_drewN (Below.refl _ _) nq) (some rb)))
 have d1 : (er != 0) = true := by simpa using he
 go_wp2_with (first | (go_at_call 83; go_must (refine (fail_bad _ er _).mono ?_; rintro e w2 ⟨rfl, rfl⟩)))
 exact ⟨rfl, rfl, HG1.out⟩
set_option maxHeartbeats 2000000 in
theorem text_ok (k rb : Nat) (s : ByteArray) (p q : Nat) (v : ByteArray) (w : World) (hR : Rd w rb s p) (hc : bits_bounded.f k s (p : Int) 4096 = some (v, (q : Int), 0)) :
 Calls Tryd.prog 112 #[.pointer (some ⟨rb, 0, none⟩)] w fun e w' => e = .returned (.agg #[.int .i64 3, .int .i64 0, .string v]) ∧ Rd w' rb s q ∧ w.grownBy w' (some rb) := by
 have hrb := blk_lt hR
 have h0 := hR.c0
 have h1 := hR.c1
 have HR := Aside0.mk hR
 have HC := Aside0.mk hc
 clear hR hc
 go_enter Tryd.func112, Tryd.ntmps112
 go_wp2_with fail
 go_quiet (first | (go_at_call 120; exact Calls.quiet_of ((bits_bounded.calls k s (p : Int) 4096 v (q : Int) 0 _ HC.out).mono fun _ _ h => ⟨h.1, h.2.out⟩)))
 have HR1 : Rd ((w.alloc (.cells #[.int .i64 0, .int .i64 0, .string ⟨#[]⟩] 84)).drewN nq) rb s p := blk_drewN (blk_alloc HR.out _) _
 have HG1 : (w.alloc (.cells #[.int .i64 0, .int .i64 0, .string ⟨#[]⟩] 84)).grownBy ((w.alloc (.cells #[.int .i64 0, .int .i64 0, .string ⟨#[]⟩] 84)).drewN nq) (some rb) := grown_of_below (pw_below_drewN (Below.refl _ _) nq) _
 generalize (w.alloc (.cells #[.int .i64 0, .int .i64 0, .string ⟨#[]⟩] 84)).drewN nq = W1 at *
 have hf := blk_frozen HR1 1
 have h0 := HR1.c0
 have h1 := HR1.c1
 have HH := Aside0.mk (new3 hrb HG1)
 have hne : ¬ w.heap.size = rb := by omega
 have hne2 : ¬ rb = w.heap.size := by omega
 obtain ⟨hc0, hc1, hc2, hf0, hf1, hf2⟩ := new3c HH.out
 have HG1 := Aside0.mk (grown_alloc HG1)
 have HR1 := Aside0.mk HR1
 go_wp2_with (first | (go_at_call 83; go_must (refine (fail_ok _ 0 _).mono ?_; rintro e w2 ⟨rfl, rfl⟩; have HR2 : Aside0 (Rd (w2.setCell ⟨rb, 1, none⟩ (.int .i64 (q : Int))) rb s q) := ⟨blk_put HR1.out 1 _ (by simp)⟩; have HG2 := Aside0.mk (grown_set HG1.out 1 (.int .i64 (q : Int))); have HH2 := Aside0.mk ((heap_setCell_other w2 ⟨rb, 1, none⟩ w.heap.size (.int .i64 (q : Int)) hne).trans HH.out))))
 obtain ⟨E0, E1, E2⟩ := end3 (Nat.le_refl _) hrb HR2.out HG2.out (.int .i64 3) (.int .i64 0) (.string v) HH2.out
 refine bodyPost_ret (results_cell_row rfl _ _ w.heap.size 84 _ (0, 0) _ rfl E0 Tryd.underlying84 rfl (by kernel_rfl)) rfl ?_
 exact ⟨rfl, E1, E2⟩
set_option maxHeartbeats 2000000 in
theorem text_bad (k rb : Nat) (s : ByteArray) (p : Nat) (q er : Int) (v : ByteArray) (w : World) (hR : Rd w rb s p) (hc : bits_bounded.f k s (p : Int) 4096 = some (v, q, er)) (he : ¬ er = 0) :
 Calls Tryd.prog 112 #[.pointer (some ⟨rb, 0, none⟩)] w fun e w' => e = .panicked (brokenV er) ∧ w.grownBy w' (some rb) := by
 have hrb := blk_lt hR
 have h0 := hR.c0
 have h1 := hR.c1
 have HR := Aside0.mk hR
 have HC := Aside0.mk hc
 clear hR hc
 go_enter Tryd.func112, Tryd.ntmps112
 go_wp2_with fail
 go_quiet (first | (go_at_call 120; exact Calls.quiet_of ((bits_bounded.calls k s (p : Int) 4096 v q er _ HC.out).mono fun _ _ h => ⟨h.1, h.2.out⟩)))
 have HG1 := Aside0.mk (grown_alloc (grown_of_below (w := w.alloc (.cells #[.int .i64 0, .int .i64 0, .string ⟨#[]⟩] 84)) (pw_below_drewN (Below.refl _ _) nq) (some rb)))
 have d1 : (er != 0) = true := by simpa using he
 go_wp2_with (first | (go_at_call 83; go_must (refine (fail_bad _ er _).mono ?_; rintro e w2 ⟨rfl, rfl⟩)))
 exact ⟨rfl, rfl, HG1.out⟩
def bk (k : Nat) (s : ByteArray) (kd : Int) (p : Nat) : Option (Except Int (S84 × Nat)) :=
 if kd = 0 then some (.ok (z84, p))
 else if kd = 1 then (if p < s.size then (if bt s (p : Int) ≤ 1 then some (.ok (⟨1, bt s (p : Int), ⟨#[]⟩⟩, p + 1)) else some (.error 14)) else some (.error 11))
 else if kd = 2 then (bits_ReadSvarint.f k s (p : Int)).bind fun r => if r.2.2 = 0 then (if 0 ≤ r.2.1 then some (.ok (⟨2, r.1, ⟨#[]⟩⟩, r.2.1.toNat)) else none) else some (.error r.2.2)
 else if kd = 3 then (bits_bounded.f k s (p : Int) 4096).bind fun r => if r.2.2 = 0 then (if 0 ≤ r.2.1 then some (.ok (⟨3, 0, r.1⟩, r.2.1.toNat)) else none) else some (.error r.2.2)
 else none
set_option maxHeartbeats 2000000 in
theorem back0_ok (k rb : Nat) (s : ByteArray) (p q : Nat) (x : S84) (w : World) (hR : Rd w rb s p) (hs : s.size ≤ 1000000000) (hc : bk k s 0 (p : Int).toNat = some (.ok (x, q))) :
 Calls Tryd.prog 99 #[.pointer (some ⟨rb, 0, none⟩)] w fun e w' => e = .returned (valV x) ∧ Rd w' rb s q ∧ w.grownBy w' (some rb) := by
 have HR := Aside0.mk hR
 clear hR
 simp only [bk, Int.toNat_natCast, if_true, Option.some.injEq, Except.ok.injEq, Prod.mk.injEq] at hc
 obtain ⟨rfl, rfl⟩ := hc
 go_enter Tryd.func99, Tryd.ntmps99
 go_wp2
 refine bodyPost_ret (results_cell_row rfl _ _ w.heap.size 84 _ (0, 0) _ rfl (heap_alloc_new w _) Tryd.underlying84 rfl (by kernel_rfl)) rfl ?_
 exact ⟨rfl, blk_alloc HR.out _, World.grownBy_alloc w _ _⟩
set_option maxHeartbeats 2000000 in
theorem back1_ok (k rb : Nat) (s : ByteArray) (p q : Nat) (x : S84) (w : World) (hR : Rd w rb s p) (hs : s.size ≤ 1000000000) (hc : bk k s 1 (p : Int).toNat = some (.ok (x, q))) :
 Calls Tryd.prog 102 #[.pointer (some ⟨rb, 0, none⟩)] w fun e w' => e = .returned (valV x) ∧ Rd w' rb s q ∧ w.grownBy w' (some rb) := by
 have hrb := blk_lt hR
 have HR := Aside0.mk hR
 clear hR
 simp only [bk, Int.toNat_natCast] at hc
 simp only [show ¬ ((1 : Int) = 0) by omega, show ¬ ((2 : Int) = 0) by omega, show ¬ ((2 : Int) = 1) by omega, show ¬ ((3 : Int) = 0) by omega, show ¬ ((3 : Int) = 1) by omega, show ¬ ((3 : Int) = 2) by omega, if_true, if_false] at hc
 by_cases hp : p < s.size
 case neg => rw [if_neg hp] at hc; exact absurd hc (by simp)
 rw [if_pos hp] at hc
 by_cases hb : bt s (p : Int) ≤ 1
 case neg => rw [if_neg hb] at hc; exact absurd hc (by simp)
 rw [if_pos hb] at hc
 simp only [Option.some.injEq, Except.ok.injEq, Prod.mk.injEq] at hc
 obtain ⟨rfl, rfl⟩ := hc
 go_enter Tryd.func102, Tryd.ntmps102
 go_wp2_with (first | (go_at_call 103; go_must (refine (truth_ok rb s p _ (blk_alloc HR.out _) hp hs hb).mono ?_; rintro e w1 ⟨rfl, hR1, hg1⟩; have HR1 := Aside0.mk hR1; have HG1 := Aside0.mk (grown_alloc hg1); have HH := Aside0.mk (new3 hrb hg1); obtain ⟨hc0, hc1, hc2, hf0, hf1, hf2⟩ := new3c HH.out; clear hR1 hg1)))
 obtain ⟨E0, E1, E2⟩ := end3 (Nat.le_refl _) hrb HR1.out HG1.out (.int .i64 1) (.int .i64 (bt s (p : Int))) (.string ⟨#[]⟩) HH.out
 refine bodyPost_ret (results_cell_row rfl _ _ w.heap.size 84 _ (0, 0) _ rfl E0 Tryd.underlying84 rfl (by kernel_rfl)) rfl ?_
 exact ⟨rfl, E1, E2⟩
set_option maxHeartbeats 2000000 in
theorem back2_ok (k rb : Nat) (s : ByteArray) (p q : Nat) (x : S84) (w : World) (hR : Rd w rb s p) (hs : s.size ≤ 1000000000) (hc : bk k s 2 (p : Int).toNat = some (.ok (x, q))) :
 Calls Tryd.prog 107 #[.pointer (some ⟨rb, 0, none⟩)] w fun e w' => e = .returned (valV x) ∧ Rd w' rb s q ∧ w.grownBy w' (some rb) := by
 have hrb := blk_lt hR
 have HR := Aside0.mk hR
 clear hR
 simp only [bk, Int.toNat_natCast] at hc
 simp only [show ¬ ((1 : Int) = 0) by omega, show ¬ ((2 : Int) = 0) by omega, show ¬ ((2 : Int) = 1) by omega, show ¬ ((3 : Int) = 0) by omega, show ¬ ((3 : Int) = 1) by omega, show ¬ ((3 : Int) = 2) by omega, if_true, if_false] at hc
 obtain ⟨⟨v, nx, er⟩, hf, hc⟩ := Option.bind_eq_some_iff.1 hc
 simp only at hc
 by_cases he : er = 0
 case neg => rw [if_neg he] at hc; exact absurd hc (by simp)
 rw [if_pos he] at hc
 by_cases hn : 0 ≤ nx
 case neg => rw [if_neg hn] at hc; exact absurd hc (by simp)
 rw [if_pos hn] at hc
 simp only [Option.some.injEq, Except.ok.injEq, Prod.mk.injEq] at hc
 obtain ⟨rfl, rfl⟩ := hc
 obtain ⟨q, rfl⟩ := Int.eq_ofNat_of_zero_le hn
 subst he
 have HF := Aside0.mk hf
 clear hf
 go_enter Tryd.func107, Tryd.ntmps107
 go_wp2_with (first | (go_at_call 108; go_must (refine (number_ok k rb s p q v _ (blk_alloc HR.out _) HF.out).mono ?_; rintro e w1 ⟨rfl, hR1, hg1⟩; have HR1 := Aside0.mk hR1; have HG1 := Aside0.mk (grown_alloc hg1); have HH := Aside0.mk (new3 hrb hg1); obtain ⟨hc0, hc1, hc2, hf0, hf1, hf2⟩ := new3c HH.out; clear hR1 hg1)))
 obtain ⟨E0, E1, E2⟩ := end3 (Nat.le_refl _) hrb HR1.out HG1.out (.int .i64 2) (.int .i64 v) (.string ⟨#[]⟩) HH.out
 refine bodyPost_ret (results_cell_row rfl _ _ w.heap.size 84 _ (0, 0) _ rfl E0 Tryd.underlying84 rfl (by kernel_rfl)) rfl ?_
 exact ⟨rfl, E1, E2⟩
set_option maxHeartbeats 2000000 in
theorem back3_ok (k rb : Nat) (s : ByteArray) (p q : Nat) (x : S84) (w : World) (hR : Rd w rb s p) (hs : s.size ≤ 1000000000) (hc : bk k s 3 (p : Int).toNat = some (.ok (x, q))) :
 Calls Tryd.prog 111 #[.pointer (some ⟨rb, 0, none⟩)] w fun e w' => e = .returned (valV x) ∧ Rd w' rb s q ∧ w.grownBy w' (some rb) := by
 have hrb := blk_lt hR
 have HR := Aside0.mk hR
 clear hR
 simp only [bk, Int.toNat_natCast] at hc
 simp only [show ¬ ((1 : Int) = 0) by omega, show ¬ ((2 : Int) = 0) by omega, show ¬ ((2 : Int) = 1) by omega, show ¬ ((3 : Int) = 0) by omega, show ¬ ((3 : Int) = 1) by omega, show ¬ ((3 : Int) = 2) by omega, if_true, if_false] at hc
 obtain ⟨⟨v, nx, er⟩, hf, hc⟩ := Option.bind_eq_some_iff.1 hc
 simp only at hc
 by_cases he : er = 0
 case neg => rw [if_neg he] at hc; exact absurd hc (by simp)
 rw [if_pos he] at hc
 by_cases hn : 0 ≤ nx
 case neg => rw [if_neg hn] at hc; exact absurd hc (by simp)
 rw [if_pos hn] at hc
 simp only [Option.some.injEq, Except.ok.injEq, Prod.mk.injEq] at hc
 obtain ⟨rfl, rfl⟩ := hc
 obtain ⟨q, rfl⟩ := Int.eq_ofNat_of_zero_le hn
 subst he
 have HF := Aside0.mk hf
 clear hf
 go_enter Tryd.func111, Tryd.ntmps111
 go_wp2_with (first | (go_at_call 112; go_must (refine (text_ok k rb s p q v _ (blk_alloc HR.out _) HF.out).mono ?_; rintro e w1 ⟨rfl, hR1, hg1⟩; have HR1 := Aside0.mk hR1; have HG1 := Aside0.mk (grown_alloc hg1); have HH := Aside0.mk (new3 hrb hg1); obtain ⟨hc0, hc1, hc2, hf0, hf1, hf2⟩ := new3c HH.out; clear hR1 hg1)))
 obtain ⟨E0, E1, E2⟩ := end3 (Nat.le_refl _) hrb HR1.out HG1.out (.int .i64 3) (.int .i64 0) (.string v) HH.out
 refine bodyPost_ret (results_cell_row rfl _ _ w.heap.size 84 _ (0, 0) _ rfl E0 Tryd.underlying84 rfl (by kernel_rfl)) rfl ?_
 exact ⟨rfl, E1, E2⟩
set_option maxHeartbeats 2000000 in
theorem back1_bad (k rb : Nat) (s : ByteArray) (p : Nat) (why : Int) (w : World) (hR : Rd w rb s p) (hs : s.size ≤ 1000000000) (hc : bk k s 1 (p : Int).toNat = some (.error why)) :
 Calls Tryd.prog 102 #[.pointer (some ⟨rb, 0, none⟩)] w fun e w' => e = .panicked (brokenV why) ∧ w.grownBy w' (some rb) := by
 have hrb := blk_lt hR
 have HR := Aside0.mk hR
 clear hR
 simp only [bk, Int.toNat_natCast] at hc
 simp only [show ¬ ((1 : Int) = 0) by omega, show ¬ ((2 : Int) = 0) by omega, show ¬ ((2 : Int) = 1) by omega, show ¬ ((3 : Int) = 0) by omega, show ¬ ((3 : Int) = 1) by omega, show ¬ ((3 : Int) = 2) by omega, if_true, if_false] at hc
 have hcall : ∀ w, Rd w rb s p → Calls Tryd.prog 103 #[.pointer (some ⟨rb, 0, none⟩)] w fun e w' => e = .panicked (brokenV why) ∧ w.grownBy w' (some rb) := by
  intro w hR
  by_cases hp2 : p < s.size
  · rw [if_pos hp2] at hc
    by_cases hb : bt s (p : Int) ≤ 1
    · rw [if_pos hb] at hc; exact absurd hc (by simp)
    rw [if_neg hb] at hc
    simp only [Option.some.injEq, Except.error.injEq] at hc
    subst hc
    exact truth_tag rb s p w hR hp2 hs (by omega)
  · rw [if_neg hp2] at hc
    simp only [Option.some.injEq, Except.error.injEq] at hc
    subst hc
    exact truth_short rb s p w hR (by omega)
 clear hc
 go_enter Tryd.func102, Tryd.ntmps102
 go_wp2_with (first | (go_at_call 103; go_must (refine (hcall _ (blk_alloc HR.out _)).mono ?_; rintro e w1 ⟨rfl, hg1⟩; have HG1 := Aside0.mk (grown_alloc hg1); clear hg1)))
 exact ⟨rfl, rfl, HG1.out⟩
set_option maxHeartbeats 2000000 in
theorem back2_bad (k rb : Nat) (s : ByteArray) (p : Nat) (why : Int) (w : World) (hR : Rd w rb s p) (hs : s.size ≤ 1000000000) (hc : bk k s 2 (p : Int).toNat = some (.error why)) :
 Calls Tryd.prog 107 #[.pointer (some ⟨rb, 0, none⟩)] w fun e w' => e = .panicked (brokenV why) ∧ w.grownBy w' (some rb) := by
 have hrb := blk_lt hR
 have HR := Aside0.mk hR
 clear hR
 simp only [bk, Int.toNat_natCast] at hc
 simp only [show ¬ ((1 : Int) = 0) by omega, show ¬ ((2 : Int) = 0) by omega, show ¬ ((2 : Int) = 1) by omega, show ¬ ((3 : Int) = 0) by omega, show ¬ ((3 : Int) = 1) by omega, show ¬ ((3 : Int) = 2) by omega, if_true, if_false] at hc
 have hcall : ∀ w, Rd w rb s p → Calls Tryd.prog 108 #[.pointer (some ⟨rb, 0, none⟩)] w fun e w' => e = .panicked (brokenV why) ∧ w.grownBy w' (some rb) := by
  intro w hR
  obtain ⟨⟨v, nx, er⟩, hf, hc⟩ := Option.bind_eq_some_iff.1 hc
  simp only at hc
  by_cases he : er = 0
  · rw [if_pos he] at hc
    split at hc <;> simp at hc
  rw [if_neg he] at hc
  simp only [Option.some.injEq, Except.error.injEq] at hc
  subst hc
  exact number_bad k rb s p nx er v w hR hf he
 clear hc
 go_enter Tryd.func107, Tryd.ntmps107
 go_wp2_with (first | (go_at_call 108; go_must (refine (hcall _ (blk_alloc HR.out _)).mono ?_; rintro e w1 ⟨rfl, hg1⟩; have HG1 := Aside0.mk (grown_alloc hg1); clear hg1)))
 exact ⟨rfl, rfl, HG1.out⟩
set_option maxHeartbeats 2000000 in
theorem back3_bad (k rb : Nat) (s : ByteArray) (p : Nat) (why : Int) (w : World) (hR : Rd w rb s p) (hs : s.size ≤ 1000000000) (hc : bk k s 3 (p : Int).toNat = some (.error why)) :
 Calls Tryd.prog 111 #[.pointer (some ⟨rb, 0, none⟩)] w fun e w' => e = .panicked (brokenV why) ∧ w.grownBy w' (some rb) := by
 have hrb := blk_lt hR
 have HR := Aside0.mk hR
 clear hR
 simp only [bk, Int.toNat_natCast] at hc
 simp only [show ¬ ((1 : Int) = 0) by omega, show ¬ ((2 : Int) = 0) by omega, show ¬ ((2 : Int) = 1) by omega, show ¬ ((3 : Int) = 0) by omega, show ¬ ((3 : Int) = 1) by omega, show ¬ ((3 : Int) = 2) by omega, if_true, if_false] at hc
 have hcall : ∀ w, Rd w rb s p → Calls Tryd.prog 112 #[.pointer (some ⟨rb, 0, none⟩)] w fun e w' => e = .panicked (brokenV why) ∧ w.grownBy w' (some rb) := by
  intro w hR
  obtain ⟨⟨v, nx, er⟩, hf, hc⟩ := Option.bind_eq_some_iff.1 hc
  simp only at hc
  by_cases he : er = 0
  · rw [if_pos he] at hc
    split at hc <;> simp at hc
  rw [if_neg he] at hc
  simp only [Option.some.injEq, Except.error.injEq] at hc
  subst hc
  exact text_bad k rb s p nx er v w hR hf he
 clear hc
 go_enter Tryd.func111, Tryd.ntmps111
 go_wp2_with (first | (go_at_call 112; go_must (refine (hcall _ (blk_alloc HR.out _)).mono ?_; rintro e w1 ⟨rfl, hg1⟩; have HG1 := Aside0.mk (grown_alloc hg1); clear hg1)))
 exact ⟨rfl, rfl, HG1.out⟩
def Sb (W : World) (sb : Nat) (s : ByteArray) : Prop := W.heap[sb]? = some (.cells #[.string s] 9 (0, 0))
def unp (b : Int) : List Int := [Go.bits .and .u8 b 3, Go.bits .and .u8 (b / 4) 3, Go.bits .and .u8 (b / 16) 3, b / 64]
def kindsOf (s : ByteArray) (n : Nat) : List Int := (List.range n).flatMap fun j => unp (bt s ((1 + j : Nat) : Int))
def cOf (s : ByteArray) : Nat := (bt s ((0 : Nat) : Int)).toNat
def nOf (s : ByteArray) : Nat := (cOf s + 3) / 4
def bkAll (k : Nat) (s : ByteArray) : List Int → Nat → Option (Except Int (List S84 × Nat))
 | [], p => some (.ok ([], p))
 | kd :: ks, p => (bk k s kd p).bind fun r => match r with
  | .error e => some (.error e)
  | .ok (x, q) => (bkAll k s ks q).bind fun r2 => match r2 with
   | .error e => some (.error e)
   | .ok (l, q2) => some (.ok (x :: l, q2))
def rdEnd (s : ByteArray) (r : Except Int (List S84 × Nat)) : Except Int (List S84) := match r with
 | .error e => .error e
 | .ok (l, q) => if q < s.size then .error 16 else .ok l
def rdRow (k : Nat) (s : ByteArray) : Option (Except Int (List S84)) :=
 if s.size = 0 then some (.error 11)
 else if 16 < cOf s then some (.error 18)
 else if s.size < 1 + nOf s then some (.error 11)
 else if ((kindsOf s (nOf s)).drop (cOf s)).all (fun x => decide (x = 0)) = false then some (.error 14)
 else (bkAll k s ((kindsOf s (nOf s)).take (cOf s)) (1 + nOf s)).map (rdEnd s)
def rdOut (w : World) (rb : Nat) (R : Except Int (List S84)) (e : Ending) (w' : World) : Prop := w.grownBy w' (some rb) ∧ match R with
 | .ok l => ∃ v0, e = .returned v0 ∧ Kd.R k84 84 w' w.heap.size (fun _ => True) v0 l
 | .error why => e = .panicked (brokenV why)
theorem Sb.grown {w w1 : World} {sb rb p : Nat} {s : ByteArray} (h : Sb w sb s) (hR : Rd w rb s p) (hg : w.grownBy w1 (some rb)) : Sb w1 sb s := by
 refine blk_grown h hg (fun e => ?_)
 injection e with e
 subst e
 unfold Sb at h; unfold Rd at hR
 rw [h] at hR
 injection hR with hR
 injection hR with _ hR
 exact absurd hR (by decide)
theorem kindsOf_length (s : ByteArray) (n : Nat) : (kindsOf s n).length = 4 * n := by
 induction n with
 | zero => rfl
 | succ n ih =>
  unfold kindsOf at *
  rw [List.range_succ, List.flatMap_append, List.length_append, ih]
  simp [unp]; omega
theorem kindsOf_succ (s : ByteArray) (n : Nat) : kindsOf s (n + 1) = kindsOf s n ++ unp (bt s ((1 + n : Nat) : Int)) := by
 unfold kindsOf
 rw [List.range_succ, List.flatMap_append]
 simp
def rdAdd (done : List S84) (r : Except Int (List S84 × Nat)) : Except Int (List S84 × Nat) := match r with
 | .error e => .error e
 | .ok (l, q) => .ok (done ++ l, q)
theorem rdAdd_nil (r : Except Int (List S84 × Nat)) : rdAdd [] r = r := by
 rcases r with e | ⟨l, q⟩ <;> rfl
theorem bk_kind {k : Nat} {s : ByteArray} {kd : Int} {p : Nat} {r : Except Int (S84 × Nat)} (h : bk k s kd p = some r) : kd = 0 ∨ kd = 1 ∨ kd = 2 ∨ kd = 3 := by
 unfold bk at h
 by_cases h0 : kd = 0
 · exact .inl h0
 by_cases h1 : kd = 1
 · exact .inr (.inl h1)
 by_cases h2 : kd = 2
 · exact .inr (.inr (.inl h2))
 by_cases h3 : kd = 3
 · exact .inr (.inr (.inr h3))
 rw [if_neg h0, if_neg h1, if_neg h2, if_neg h3] at h
 exact absurd h (by simp)
theorem rowV_grown {w w1 : World} {base rb p : Nat} {v : Value} {xs : List S84} {s : ByteArray} (h : Kd.R k84 84 w base (fun _ => True) v xs) (hR : Rd w rb s p) (hg : w.grownBy w1 (some rb)) : Kd.R k84 84 w1 base (fun _ => True) v xs :=
 Kd.R_mono (Kd.R_grown (Kd.R_types h hR (fun q hq => by
  have hq : q ∈ [84] := hq
  rw [List.mem_singleton.1 hq]
  decide)) hg (fun k hk e => hk.2 (by injection e))) (fun _ _ => trivial)
theorem grown_then {a b c : World} {row row' : Option Nat} (h : a.grownBy b row) (k : b.grownBy c row') (hr : ∀ j, row' = some j → a.heap.size ≤ j) : a.grownBy c row :=
 ⟨k.os.trans h.os, k.tape.trans h.tape, k.output.trans h.output, Nat.le_trans h.size k.size, fun i hi hne => (k.block i (Nat.lt_of_lt_of_le hi h.size) (fun e => by have := hr i e.symm; omega)).trans (h.block i hi hne)⟩
def Bt (w W : World) (rb : Nat) (v : Value) (xs : List Int) : Prop := W.ownsRow w.heap.size 5 1 v xs.length (nums .u8 xs) ∧ w.grownBy W (some rb)
theorem Bt.alloc {w W : World} {rb : Nat} {v : Value} {xs : List Int} (h : Bt w W rb v xs) (o : Obj) : Bt w (W.alloc o) rb v xs := ⟨h.1.alloc o, h.2.trans (World.grownBy_alloc W o _)⟩
theorem Bt.below {w W w1 : World} {rb : Nat} {v : Value} {xs : List Int} (h : Bt w W rb v xs) (hb : Below W.heap.size W w1) : Bt w w1 rb v xs := ⟨pw_own_below h.1 hb, h.2.trans (grown_of_below hb _)⟩
theorem Bt.grownR {w W w1 : World} {rb p : Nat} {v : Value} {xs : List Int} {s : ByteArray} (h : Bt w W rb v xs) (hR : Rd W rb s p) (hg : W.grownBy w1 (some rb)) : Bt w w1 rb v xs := by
 refine ⟨h.1.kept hg (.inr fun e => ?_), h.2.trans hg⟩
 obtain ⟨cells, hc⟩ := own_typed h.1 rb e
 unfold Rd at hR
 rw [hc] at hR
 injection hR with hR
 injection hR with _ hR
 exact absurd hR (by decide)
theorem Bt.grownV {w W w1 : World} {rb : Nat} {v u : Value} {xs : List Int} {ys : List S84} (h : Bt w W rb v xs) (hu : Kd.R k84 84 W w.heap.size (fun _ => True) u ys) (hg : W.grownBy w1 u.ownBlock) : Bt w w1 rb v xs := by
 refine ⟨h.1.kept hg ?_, grown_then h.2 hg (fun j hj => ?_)⟩
 · by_cases hv : v.ownBlock = none
   · exact .inl hv
   · obtain ⟨b, hb⟩ := Option.ne_none_iff_exists'.1 hv
     obtain ⟨cells, hc⟩ := own_typed h.1 b hb
     refine .inr ?_
     rw [hb]
     exact Kd.R_ne hu hc (by decide)
 · obtain ⟨inner, ho⟩ := Kd.R_own hu
   exact own_base ho j hj
section
variable {P : Program} {ops : Array Oper} {rest : List Oper} {o : Oper} {a : Act} {Q : Exit → Act → World → Prop}
theorem Bt.row {w W : World} {rb : Nat} (hgd : o.guard = none) (s x : Operand) (t : TypeId)
 (ho : o.op = .call { callee := .builtin .append, args := #[s, x], argTypes := #[t, t] }) (ht : P.underlying t = some (.slice 5)) (hinfo : (P.info? 5).map (fun i => (i.zero, i.size, i.bytes)) = some (some (.int .u8 0), 1, 1))
 (v : Value) (xs ys : List Int) (A : Option Addr) (m c : Nat) (hs : a.eval s = v) (hx : a.eval x = .slice A m c) (HR : ReadsInt W .u8 A m ys) (HB : Bt w W rb v xs) (hl : xs.length + m ≤ 2000000000)
 (h : ∀ v1 w1, Bt w w1 rb v1 (xs ++ ys) → Kept W w1 → wpList P ops Q rest (a.put o.dst v1) w1) : wpList P ops Q (o :: rest) a W :=
 print_append_row (w0 := W) w.heap.size hgd s x t 5 .u8 1 ho ht hinfo (by omega) v xs ys A m c hs hx HB.1 HR (Below.refl _ _) HB.2.size (by omega) (fun v1 w1 h1 h2 h3 _ => h v1 w1 ⟨h1, grown_then HB.2 h3 (fun j hj => own_base HB.1 j hj)⟩ (Kept.of HB.1 h3))
end
theorem rd_get (xs : List Int) (i : Nat) (h : i < xs.length) : rd xs (i : Int) = xs[i] := by simp [rd, List.getD_eq_getElem?_getD, h]
theorem reads_four (W : World) (x y z u : Int) (e : Nat) : ReadsInt (W.alloc (.cells #[.int .u8 x, .int .u8 y, .int .u8 z, .int .u8 u] e)) .u8 (some ⟨W.heap.size, 0, none⟩) 4 [x, y, z, u] := by
 refine ⟨rfl, by omega, fun _ => ⟨_, rfl, fun j hj => ?_⟩⟩
 rw [add_plain]
 have : j = 0 ∨ j = 1 ∨ j = 2 ∨ j = 3 := by omega
 rcases this with rfl | rfl | rfl | rfl <;> simp [World.cell?_alloc_new]
theorem Rd.kept {W w1 : World} {rb p : Nat} {s : ByteArray} (h : Rd W rb s p) (hk : Kept W w1) : Rd w1 rb s p := hk rb _ _ (by decide) h
theorem Sb.kept {W w1 : World} {sb : Nat} {s : ByteArray} (h : Sb W sb s) (hk : Kept W w1) : Sb w1 sb s := hk sb _ _ (by decide) h
theorem Kept.alloc {W w1 : World} {o : Obj} (h : Kept (W.alloc o) w1) : Kept W w1 := fun k c t ht hk => h k c t ht (blk_alloc hk o)
set_option maxHeartbeats 4000000 in
theorem rr_calls (k rb sb : Nat) (s : ByteArray) (w : World) (R : Except Int (List S84)) (h : rdRow k s = some R) (hs : s.size ≤ 1000000000) (hR : Rd w rb s 0) (hS : Sb w sb s) :
 Calls Tryd.prog 81 #[.pointer (some ⟨rb, 0, none⟩), .pointer (some ⟨sb, 0, none⟩)] w fun e w' => rdOut w rb R e w' := by
 unfold rdRow at h
 have HR := Aside0.mk hR
 have HS := Aside0.mk hS
 clear hR hS
 by_cases hz : s.size = 0
 · rw [if_pos hz] at h
   obtain rfl := Option.some.inj h
   go_enter Tryd.func81, Tryd.ntmps81
   go_wp2_with (first | (go_at_call 82; go_must (refine (next_short rb s 0 _ HR.out (by omega)).mono ?_; rintro e w1 ⟨rfl, hg1⟩)))
   exact ⟨rfl, hg1, rfl⟩
 rw [if_neg hz] at h
 obtain ⟨b, hb⟩ : ∃ b, bt s ((0 : Nat) : Int) = b := ⟨_, rfl⟩
 have hb2 := bt_range s ((0 : Nat) : Int)
 rw [hb] at hb2
 have hcO : (cOf s : Int) = b := by unfold cOf; rw [hb]; omega
 have HBt := Aside0.mk hb
 clear hb
 obtain ⟨c, hc⟩ : ∃ c, cOf s = c := ⟨_, rfl⟩
 rw [hc] at h hcO
 obtain rfl : b = (c : Int) := hcO.symm
 by_cases hc16 : 16 < c
 · rw [if_pos hc16] at h
   obtain rfl := Option.some.inj h
   have d1 : decide ((16 : Int) < (c : Int)) = true := decide_eq_true (by omega)
   have d2 : decide (16 < c) = true := decide_eq_true hc16
   go_enter Tryd.func81, Tryd.ntmps81
   go_wp2_with (first | (go_at_call 82; go_must (refine (next_ok rb s 0 _ HR.out (by omega) (by omega)).mono ?_; rintro e w1 ⟨rfl, hR1, hg1⟩; rw [HBt.out])) | (go_at_call 83; go_must (refine (fail_bad _ 18 _).mono ?_; rintro e w2 ⟨rfl, rfl⟩)))
   exact ⟨rfl, hg1, rfl⟩
 rw [if_neg hc16] at h
 have d1 : decide ((16 : Int) < (c : Int)) = false := decide_eq_false (by omega)
 have d2 : decide (16 < c) = false := decide_eq_false hc16
 have hN : nOf s = (c + 3) / 4 := by unfold nOf; rw [hc]
 obtain ⟨n, hn⟩ : ∃ n, nOf s = n := ⟨_, rfl⟩
 rw [hn] at h hN
 clear hn hc
 have eN : ((c : Int) + 3) / 4 = (n : Int) := by omega
 have hn4 : n ≤ 4 := by omega
 have HN := Aside0.mk hN
 have Hh := Aside0.mk h
 clear hN h
 go_enter Tryd.func81, Tryd.ntmps81
 go_wp2_with (first | (go_at_call 82; go_must (refine (next_ok rb s 0 _ HR.out (by omega) (by omega)).mono ?_; rintro e w1 ⟨rfl, hR1, hg1⟩; rw [HBt.out]; have HR1 := Aside0.mk hR1; have HS1 := Aside0.mk (Sb.grown HS.out HR.out hg1); have HB1 := Aside0.mk hg1; clear hR1 hg1)) | (go_at_call 83; go_must (refine (fail_ok _ 18 _).mono ?_; rintro e w2 ⟨rfl, rfl⟩)))
 rw [eN]
 go_loopw [4, 19] (fun v4 v19 wr => ∃ (j : Nat), j ≤ n ∧ v19 = .int .i64 (j : Int) ∧ 1 + j ≤ s.size ∧ Aside0 (Bt w wr rb v4 (kindsOf s j)) ∧ Aside0 (Rd wr rb s (1 + j)) ∧ Aside0 (Sb wr sb s)) (fun _ v19 _ => n - (intOf v19).toNat)
 case atStart => exact ⟨0, Nat.zero_le _, rfl, by omega, ⟨⟨own_nil _ _ _ _, HB1.out⟩⟩, HR1, HS1⟩
 case round =>
  clear HR1 HS1 HB1
  obtain ⟨j, hj, rfl, hjs, HBS, HRJ, HSJ⟩ := hrel
  by_cases hlt : j < n
  · have e1 : decide ((j : Int) < (n : Int)) = true := decide_eq_true (by omega)
    have e2 : decide (j < n) = true := decide_eq_true hlt
    have e3 : decide ((j : Int) < ((c : Int) + 3) / 4) = true := decide_eq_true (by omega)
    by_cases hsh : 1 + j < s.size
    · have HK : Aside0 (kindsOf s j ++ unp (bt s ((1 + j : Nat) : Int)) = kindsOf s (j + 1)) := ⟨(kindsOf_succ s j).symm⟩
      have hlen : (kindsOf s j).length ≤ 16 := by rw [kindsOf_length]; omega
      obtain ⟨y, hy⟩ : ∃ y, bt s ((1 + j : Nat) : Int) = y := ⟨_, rfl⟩
      have hy2 := bt_range s ((1 + j : Nat) : Int)
      rw [hy] at HK hy2
      have HY := Aside0.mk hy
      clear hy
      obtain ⟨y0, y1⟩ := hy2
      go_wp2_with (first
       | (go_at_call 82; go_must (refine (next_ok rb s (1 + j) _ HRJ.out hsh hs).mono ?_; rintro e w2 ⟨rfl, hR2, hg2⟩; rw [HY.out]; have HR2 := Aside0.mk hR2; have HS2 := Aside0.mk (Sb.grown HSJ.out HRJ.out hg2); have HBS2 := Aside0.mk (HBS.out.grownR HRJ.out hg2); clear hR2 hg2))
       | ((with_reducible refine gate_builtin (b := .append) (xs := #[.tmp 22, .tmp 33]) rfl ?_); at_builtin; refine Bt.row rfl (.tmp 22) (.tmp 33) 66 rfl Tryd.underlying66 info5 u4 (kindsOf s j) (unp y) (some ⟨w2.heap.size, 0, none⟩) 4 4 rfl rfl (reads_four w2 _ _ _ _ 5) (HBS2.out.alloc _) (by omega) ?_; intro v1 w3 h1 hk; rw [HK.out] at h1; have H1 := Aside0.mk h1; have HR3 := Aside0.mk (HR2.out.kept hk.alloc); have HS3 := Aside0.mk (HS2.out.kept hk.alloc); clear h1 hk))
      go_roundw
      case rel => exact ⟨j + 1, by omega, by go_num, by omega, H1, HR3, HS3⟩
      case measure => simp [intOf]; omega
    · have hh := Hh.out
      rw [if_pos (by omega)] at hh
      obtain rfl := Option.some.inj hh
      go_wp2_with (first | (go_at_call 82; go_must (refine (next_short rb s (1 + j) _ HRJ.out (by omega)).mono ?_; rintro e w2 ⟨rfl, hg2⟩)))
      exact ⟨rfl, (HBS.out.grownR HRJ.out hg2).2, rfl⟩
  · have e1 : decide ((j : Int) < (n : Int)) = false := decide_eq_false (by omega)
    have e2 : decide (j < n) = false := decide_eq_false hlt
    have e3 : decide ((j : Int) < ((c : Int) + 3) / 4) = false := decide_eq_false (by omega)
    obtain rfl : j = n := by omega
    have hh := Hh.out
    rw [if_neg (by omega)] at hh
    have hKL := kindsOf_length s j
    have hcK : c ≤ (kindsOf s j).length := by have := HN.out; omega
    have hK16 : (kindsOf s j).length ≤ 16 := by omega
    obtain ⟨K, hK⟩ : ∃ K, kindsOf s j = K := ⟨_, rfl⟩
    rw [hK] at hh HBS hcK hK16
    clear hK hKL
    have Hh2 := Aside0.mk hh
    clear hh
    obtain ⟨A, cap, rfl, hread⟩ := own_reads HBS.out.1
    have hcap := own_le HBS.out.1
    obtain ⟨i0, hi, hz0, hz1, hz2⟩ := info_parts info5
    obtain ⟨A1, hcut, hA1⟩ := print_cut (P := Tryd.prog) 66 5 .i64 Tryd.underlying66 hi hz1 A K.length cap c hcK
    obtain ⟨htk, hA2, hA3⟩ := print_take_int (P := Tryd.prog) (k := .u8) 66 5 Tryd.underlying66 hi hz1 A cap K (c : Int) (by omega) (by omega) hcap
    simp only [Int.toNat_natCast] at htk hA2 hA3
    have HA1 := Aside0.mk hA1
    have HA2 := Aside0.mk hA2
    clear hi hz0 hz1 hz2 hread hA1 hA2
    obtain ⟨L1, hL1⟩ : ∃ L1, K.length - c = L1 := ⟨_, rfl⟩
    have HDL : Aside0 ((K.drop c).length = L1) := ⟨by rw [List.length_drop, hL1]⟩
    obtain ⟨T, hT⟩ : ∃ T, K.take c = T := ⟨_, rfl⟩
    have hTl : T.length = c := by rw [← hT, List.length_take]; omega
    rw [hT] at htk HA2 hA3 Hh2
    rw [hTl] at htk HA2 hA3
    rw [hL1] at hcut HA1
    have hL16 : L1 ≤ 16 := by omega
    have HTL := Aside0.mk hTl
    clear hL1 hT hTl hcK
    go_wp2_with fail
    go_loopw [40] (fun v40 wr => ∃ (i : Nat), i ≤ L1 ∧ v40 = .int .i64 (i : Int) ∧ Aside0 (((K.drop c).take i).all (fun x => decide (x = 0)) = true) ∧ Aside0 (Bt w wr rb (.slice A K.length cap) K) ∧ Aside0 (Rd wr rb s (1 + j)) ∧ Aside0 (Sb wr sb s)) (fun v40 _ => L1 - (intOf v40).toNat)
    case atStart => exact ⟨0, Nat.zero_le _, rfl, ⟨by simp⟩, HBS, HRJ, HSJ⟩
    case round =>
     clear HBS HRJ HSJ
     obtain ⟨i, hi, rfl, HZ, HBS, HRJ, HSJ⟩ := hrel
     by_cases hil : i < L1
     · have f1 : decide ((i : Int) < (L1 : Int)) = true := decide_eq_true (by omega)
       have f2 : decide (i < L1) = true := decide_eq_true hil
       obtain ⟨ad, ea, hcell⟩ := ((HA1.out _ _ _ hcap (own_reads' HBS.out.1)).at_ (i : Int) (by omega) (by omega))
       cases ea
       simp only [Int.toNat_natCast] at hcell
       have hil2 : i < (K.drop c).length := by rw [HDL.out]; exact hil
       have hrd : rd (K.drop c) (i : Int) = (K.drop c)[i] := rd_get _ i hil2
       have HTK : Aside0 ((K.drop c).take (i + 1) = (K.drop c).take i ++ [rd (K.drop c) (i : Int)]) := ⟨by rw [List.take_succ_eq_append_getElem hil2, hrd]⟩
       have HMEM : Aside0 (rd (K.drop c) (i : Int) ∈ K.drop c) := ⟨by rw [hrd]; exact List.getElem_mem hil2⟩
       clear hrd
       generalize rd (K.drop c) (i : Int) = x at *
       by_cases hx : x = 0
       · have g1 : (x != 0) = false := by simp [hx]
         have HZ2 : Aside0 (((K.drop c).take (i + 1)).all (fun x => decide (x = 0)) = true) := ⟨by rw [HTK.out, List.all_append, HZ.out, hx]; rfl⟩
         clear HTK HMEM
         go_wp2_with (first | (go_at_call 83; go_must (refine (fail_ok _ 14 _).mono ?_; rintro e w2 ⟨rfl, rfl⟩)))
         go_roundw
         case rel => exact ⟨i + 1, by omega, by go_num, HZ2, HBS, HRJ, HSJ⟩
         case measure => simp [intOf]; omega
       · have g1 : (x != 0) = true := by simpa using hx
         have hh := Hh2.out
         rw [if_pos (by
          rw [Bool.eq_false_iff]
          intro ha
          exact hx (by simpa using List.all_eq_true.1 ha x HMEM.out))] at hh
         obtain rfl := Option.some.inj hh
         go_wp2_with (first | (go_at_call 83; go_must (refine (fail_bad _ 14 _).mono ?_; rintro e w2 ⟨rfl, rfl⟩)))
         exact ⟨rfl, HBS.out.2, rfl⟩
     · have f1 : decide ((i : Int) < (L1 : Int)) = false := decide_eq_false (by omega)
       have f2 : decide (i < L1) = false := decide_eq_false hil
       have hh := Hh2.out
       rw [if_neg (by
        have e : (K.drop c).take i = K.drop c := List.take_of_length_le (by rw [HDL.out]; omega)
        have := HZ.out
        rw [e] at this
        rw [this]; simp)] at hh
       have Hh3 := Aside0.mk hh
       clear hh HZ hi hil
       go_wp2_with fail
       clear f1 f2
       have hfl := codec_back
       go_loopw [8, 52] (fun v8 v52 wr => ∃ (i p : Nat) (done : List S84) (r2 : Except Int (List S84 × Nat)), i ≤ c ∧ v52 = .int .i64 (i : Int) ∧ Aside0 (done.length = i) ∧ Aside0 (bkAll k s (T.drop i) p = some r2) ∧ Aside0 (rdEnd s (rdAdd done r2) = R) ∧ Aside0 (Kd.R k84 84 wr w.heap.size (fun _ => True) v8 done) ∧ Aside0 (Bt w wr rb (.slice A K.length cap) K) ∧ Aside0 (Rd wr rb s p) ∧ Aside0 (Sb wr sb s)) (fun _ v52 _ => c - (intOf v52).toNat)
       case atStart =>
        obtain ⟨r2, hr2, hr3⟩ := Option.map_eq_some_iff.1 Hh3.out
        exact ⟨0, 1 + j, [], r2, Nat.zero_le _, rfl, ⟨rfl⟩, ⟨hr2⟩, ⟨by rw [rdAdd_nil]; exact hr3⟩, ⟨Kd.R_nil _ _ _ _ _⟩, HBS, HRJ, HSJ⟩
       case round =>
        clear HBS HRJ HSJ Hh3 Hh2 Hh
        obtain ⟨i, p, done, r2, hi, rfl, HDN, HBK, HEND, HKR, HBS, HRJ, HSJ⟩ := hrel
        by_cases hil : i < c
        · have f1 : decide ((i : Int) < (c : Int)) = true := decide_eq_true (by omega)
          have f2 : decide (i < c) = true := decide_eq_true hil
          obtain ⟨ad, ea, hcell⟩ := (HA2.out _ (own_reads' HBS.out.1)).at_ (i : Int) (by omega) (by omega)
          cases ea
          simp only [Int.toNat_natCast] at hcell
          have hilT : i < T.length := by rw [HTL.out]; exact hil
          rw [rd_get T i hilT] at hcell
          have hbk := HBK.out
          rw [List.drop_eq_getElem_cons hilT] at hbk
          generalize T[i] = kd at *
          simp only [bkAll] at hbk
          obtain ⟨r1, h1, h2⟩ := Option.bind_eq_some_iff.1 hbk
          have hkd := bk_kind h1
          clear hbk HBK
          have H1 := Aside0.mk h1
          rcases r1 with er | ⟨x, q⟩
          · simp only [Option.some.injEq] at h2
            subst h2
            have hend := HEND.out
            simp only [rdAdd, rdEnd] at hend
            subst hend
            clear h1
            rcases hkd with rfl | rfl | rfl | rfl
            · exact absurd H1.out (by simp [bk])
            · go_wp2_with (first
               | (go_at_call 73; go_must (refine (codecs_call1 _).mono ?_; rintro e w2 ⟨rfl, hb2⟩; have HR2 : Aside0 (Rd w2 rb s p) := ⟨blk_below HRJ.out hb2⟩; have HS2 : Aside0 (Sb w2 sb s) := ⟨blk_below HSJ.out hb2⟩; have HBS2 := Aside0.mk (HBS.out.below hb2); have HK2 := Aside0.mk (Kd.R_below HKR.out hb2); clear hb2))
               | (go_at_call 102; go_must (refine (back1_bad k rb s p er _ HR2.out hs H1.out).mono ?_; rintro e w3 ⟨rfl, hg3⟩)))
              exact ⟨rfl, (HBS2.out.grownR HR2.out hg3).2, rfl⟩
            · go_wp2_with (first
               | (go_at_call 73; go_must (refine (codecs_call2 _).mono ?_; rintro e w2 ⟨rfl, hb2⟩; have HR2 : Aside0 (Rd w2 rb s p) := ⟨blk_below HRJ.out hb2⟩; have HS2 : Aside0 (Sb w2 sb s) := ⟨blk_below HSJ.out hb2⟩; have HBS2 := Aside0.mk (HBS.out.below hb2); have HK2 := Aside0.mk (Kd.R_below HKR.out hb2); clear hb2))
               | (go_at_call 107; go_must (refine (back2_bad k rb s p er _ HR2.out hs H1.out).mono ?_; rintro e w3 ⟨rfl, hg3⟩)))
              exact ⟨rfl, (HBS2.out.grownR HR2.out hg3).2, rfl⟩
            · go_wp2_with (first
               | (go_at_call 73; go_must (refine (codecs_call3 _).mono ?_; rintro e w2 ⟨rfl, hb2⟩; have HR2 : Aside0 (Rd w2 rb s p) := ⟨blk_below HRJ.out hb2⟩; have HS2 : Aside0 (Sb w2 sb s) := ⟨blk_below HSJ.out hb2⟩; have HBS2 := Aside0.mk (HBS.out.below hb2); have HK2 := Aside0.mk (Kd.R_below HKR.out hb2); clear hb2))
               | (go_at_call 111; go_must (refine (back3_bad k rb s p er _ HR2.out hs H1.out).mono ?_; rintro e w3 ⟨rfl, hg3⟩)))
              exact ⟨rfl, (HBS2.out.grownR HR2.out hg3).2, rfl⟩
          · obtain ⟨r3, h3, h4⟩ := Option.bind_eq_some_iff.1 h2
            have HBK3 := Aside0.mk h3
            have HEND3 : Aside0 (rdEnd s (rdAdd (done ++ [x]) r3) = R) := by
             constructor
             have hend := HEND.out
             rcases r3 with er | ⟨l, q2⟩
             · simp only [Option.some.injEq] at h4
               subst h4
               exact hend
             · simp only [Option.some.injEq] at h4
               subst h4
               rw [← hend]
               simp [rdAdd]
            have HDN2 : Aside0 ((done ++ [x]).length = i + 1) := ⟨by rw [List.length_append, HDN.out]; rfl⟩
            clear h1 h2 h3 h4 HEND
            have hdl : done.length ≤ 16 := by rw [HDN.out]; omega
            rcases hkd with rfl | rfl | rfl | rfl
            · go_wp2_with (first
               | (go_at_call 73; go_must (refine (codecs_call0 _).mono ?_; rintro e w2 ⟨rfl, hb2⟩; have HR2 : Aside0 (Rd w2 rb s p) := ⟨blk_below HRJ.out hb2⟩; have HS2 : Aside0 (Sb w2 sb s) := ⟨blk_below HSJ.out hb2⟩; have HBS2 := Aside0.mk (HBS.out.below hb2); have HK2 := Aside0.mk (Kd.R_below HKR.out hb2); clear hb2))
               | (go_at_call 99; go_must (refine (back0_ok k rb s p q x _ HR2.out hs H1.out).mono ?_; rintro e w3 ⟨rfl, hR3, hg3⟩; rw [show valV x = .agg #[.int .i64 x.f0, .int .i64 x.f1, .string x.f2] from rfl]; have HS3 := Aside0.mk (Sb.grown HS2.out HR2.out hg3); have HBS3 := Aside0.mk (HBS2.out.grownR HR2.out hg3); have HK3 := Aside0.mk (rowV_grown HK2.out HR2.out hg3); have HR3 := Aside0.mk hR3; have hsz3 := HBS3.out.2.size; clear hR3 hg3))
               | ((with_reducible refine gate_builtin (b := .append) (xs := #[.tmp 56, .tmp 62]) rfl ?_); at_builtin; (refine Kd.R_append k84 (w0 := w3) w.heap.size rfl (.tmp 56) (.tmp 62) 38 84 (.agg #[.int .i64 0, .int .i64 0, .string ⟨#[]⟩]) 32 rfl Tryd.underlying38 info84 rfl (by decide) (by omega) u8 done x [.int .i64 x.f0, .int .i64 x.f1, .string x.f2] (fun _ => True) (fun _ => False) rfl ?hx ?aP (fun _ hk => hk.elim) ?aF ?aO ?aB ?aS ?aL ?_); (case hx => exact rfl); (case aP => exact ⟨_, _, rfl, rfl, ⟨_, _, rfl, rfl, rfl⟩⟩); (case aB => exact Below.refl _ _); (case aF => exact (fun _ _ => trivial)); (case aO => exact HK3.out); (case aS => exact hsz3); (case aL => omega); intro v1 w4 ho hb hg hat; have HK4 := Aside0.mk ho; have HR4 : Aside0 (Rd w4 rb s q) := ⟨blk_grown HR3.out hg (Kd.R_ne HK3.out HR3.out (by decide))⟩; have HS4 : Aside0 (Sb w4 sb s) := ⟨blk_grown HS3.out hg (Kd.R_ne HK3.out HS3.out (by decide))⟩; have HBS4 := Aside0.mk (HBS3.out.grownV HK3.out hg); clear ho hb hg hat))
              go_roundw
              case rel => exact ⟨i + 1, q, done ++ [x], r3, by omega, by go_num, HDN2, HBK3, HEND3, HK4, HBS4, HR4, HS4⟩
              case measure => simp [intOf]; omega
            · go_wp2_with (first
               | (go_at_call 73; go_must (refine (codecs_call1 _).mono ?_; rintro e w2 ⟨rfl, hb2⟩; have HR2 : Aside0 (Rd w2 rb s p) := ⟨blk_below HRJ.out hb2⟩; have HS2 : Aside0 (Sb w2 sb s) := ⟨blk_below HSJ.out hb2⟩; have HBS2 := Aside0.mk (HBS.out.below hb2); have HK2 := Aside0.mk (Kd.R_below HKR.out hb2); clear hb2))
               | (go_at_call 102; go_must (refine (back1_ok k rb s p q x _ HR2.out hs H1.out).mono ?_; rintro e w3 ⟨rfl, hR3, hg3⟩; rw [show valV x = .agg #[.int .i64 x.f0, .int .i64 x.f1, .string x.f2] from rfl]; have HS3 := Aside0.mk (Sb.grown HS2.out HR2.out hg3); have HBS3 := Aside0.mk (HBS2.out.grownR HR2.out hg3); have HK3 := Aside0.mk (rowV_grown HK2.out HR2.out hg3); have HR3 := Aside0.mk hR3; have hsz3 := HBS3.out.2.size; clear hR3 hg3))
               | ((with_reducible refine gate_builtin (b := .append) (xs := #[.tmp 56, .tmp 62]) rfl ?_); at_builtin; (refine Kd.R_append k84 (w0 := w3) w.heap.size rfl (.tmp 56) (.tmp 62) 38 84 (.agg #[.int .i64 0, .int .i64 0, .string ⟨#[]⟩]) 32 rfl Tryd.underlying38 info84 rfl (by decide) (by omega) u8 done x [.int .i64 x.f0, .int .i64 x.f1, .string x.f2] (fun _ => True) (fun _ => False) rfl ?hx ?aP (fun _ hk => hk.elim) ?aF ?aO ?aB ?aS ?aL ?_); (case hx => exact rfl); (case aP => exact ⟨_, _, rfl, rfl, ⟨_, _, rfl, rfl, rfl⟩⟩); (case aB => exact Below.refl _ _); (case aF => exact (fun _ _ => trivial)); (case aO => exact HK3.out); (case aS => exact hsz3); (case aL => omega); intro v1 w4 ho hb hg hat; have HK4 := Aside0.mk ho; have HR4 : Aside0 (Rd w4 rb s q) := ⟨blk_grown HR3.out hg (Kd.R_ne HK3.out HR3.out (by decide))⟩; have HS4 : Aside0 (Sb w4 sb s) := ⟨blk_grown HS3.out hg (Kd.R_ne HK3.out HS3.out (by decide))⟩; have HBS4 := Aside0.mk (HBS3.out.grownV HK3.out hg); clear ho hb hg hat))
              go_roundw
              case rel => exact ⟨i + 1, q, done ++ [x], r3, by omega, by go_num, HDN2, HBK3, HEND3, HK4, HBS4, HR4, HS4⟩
              case measure => simp [intOf]; omega
            · go_wp2_with (first
               | (go_at_call 73; go_must (refine (codecs_call2 _).mono ?_; rintro e w2 ⟨rfl, hb2⟩; have HR2 : Aside0 (Rd w2 rb s p) := ⟨blk_below HRJ.out hb2⟩; have HS2 : Aside0 (Sb w2 sb s) := ⟨blk_below HSJ.out hb2⟩; have HBS2 := Aside0.mk (HBS.out.below hb2); have HK2 := Aside0.mk (Kd.R_below HKR.out hb2); clear hb2))
               | (go_at_call 107; go_must (refine (back2_ok k rb s p q x _ HR2.out hs H1.out).mono ?_; rintro e w3 ⟨rfl, hR3, hg3⟩; rw [show valV x = .agg #[.int .i64 x.f0, .int .i64 x.f1, .string x.f2] from rfl]; have HS3 := Aside0.mk (Sb.grown HS2.out HR2.out hg3); have HBS3 := Aside0.mk (HBS2.out.grownR HR2.out hg3); have HK3 := Aside0.mk (rowV_grown HK2.out HR2.out hg3); have HR3 := Aside0.mk hR3; have hsz3 := HBS3.out.2.size; clear hR3 hg3))
               | ((with_reducible refine gate_builtin (b := .append) (xs := #[.tmp 56, .tmp 62]) rfl ?_); at_builtin; (refine Kd.R_append k84 (w0 := w3) w.heap.size rfl (.tmp 56) (.tmp 62) 38 84 (.agg #[.int .i64 0, .int .i64 0, .string ⟨#[]⟩]) 32 rfl Tryd.underlying38 info84 rfl (by decide) (by omega) u8 done x [.int .i64 x.f0, .int .i64 x.f1, .string x.f2] (fun _ => True) (fun _ => False) rfl ?hx ?aP (fun _ hk => hk.elim) ?aF ?aO ?aB ?aS ?aL ?_); (case hx => exact rfl); (case aP => exact ⟨_, _, rfl, rfl, ⟨_, _, rfl, rfl, rfl⟩⟩); (case aB => exact Below.refl _ _); (case aF => exact (fun _ _ => trivial)); (case aO => exact HK3.out); (case aS => exact hsz3); (case aL => omega); intro v1 w4 ho hb hg hat; have HK4 := Aside0.mk ho; have HR4 : Aside0 (Rd w4 rb s q) := ⟨blk_grown HR3.out hg (Kd.R_ne HK3.out HR3.out (by decide))⟩; have HS4 : Aside0 (Sb w4 sb s) := ⟨blk_grown HS3.out hg (Kd.R_ne HK3.out HS3.out (by decide))⟩; have HBS4 := Aside0.mk (HBS3.out.grownV HK3.out hg); clear ho hb hg hat))
              go_roundw
              case rel => exact ⟨i + 1, q, done ++ [x], r3, by omega, by go_num, HDN2, HBK3, HEND3, HK4, HBS4, HR4, HS4⟩
              case measure => simp [intOf]; omega
            · go_wp2_with (first
               | (go_at_call 73; go_must (refine (codecs_call3 _).mono ?_; rintro e w2 ⟨rfl, hb2⟩; have HR2 : Aside0 (Rd w2 rb s p) := ⟨blk_below HRJ.out hb2⟩; have HS2 : Aside0 (Sb w2 sb s) := ⟨blk_below HSJ.out hb2⟩; have HBS2 := Aside0.mk (HBS.out.below hb2); have HK2 := Aside0.mk (Kd.R_below HKR.out hb2); clear hb2))
               | (go_at_call 111; go_must (refine (back3_ok k rb s p q x _ HR2.out hs H1.out).mono ?_; rintro e w3 ⟨rfl, hR3, hg3⟩; rw [show valV x = .agg #[.int .i64 x.f0, .int .i64 x.f1, .string x.f2] from rfl]; have HS3 := Aside0.mk (Sb.grown HS2.out HR2.out hg3); have HBS3 := Aside0.mk (HBS2.out.grownR HR2.out hg3); have HK3 := Aside0.mk (rowV_grown HK2.out HR2.out hg3); have HR3 := Aside0.mk hR3; have hsz3 := HBS3.out.2.size; clear hR3 hg3))
               | ((with_reducible refine gate_builtin (b := .append) (xs := #[.tmp 56, .tmp 62]) rfl ?_); at_builtin; (refine Kd.R_append k84 (w0 := w3) w.heap.size rfl (.tmp 56) (.tmp 62) 38 84 (.agg #[.int .i64 0, .int .i64 0, .string ⟨#[]⟩]) 32 rfl Tryd.underlying38 info84 rfl (by decide) (by omega) u8 done x [.int .i64 x.f0, .int .i64 x.f1, .string x.f2] (fun _ => True) (fun _ => False) rfl ?hx ?aP (fun _ hk => hk.elim) ?aF ?aO ?aB ?aS ?aL ?_); (case hx => exact rfl); (case aP => exact ⟨_, _, rfl, rfl, ⟨_, _, rfl, rfl, rfl⟩⟩); (case aB => exact Below.refl _ _); (case aF => exact (fun _ _ => trivial)); (case aO => exact HK3.out); (case aS => exact hsz3); (case aL => omega); intro v1 w4 ho hb hg hat; have HK4 := Aside0.mk ho; have HR4 : Aside0 (Rd w4 rb s q) := ⟨blk_grown HR3.out hg (Kd.R_ne HK3.out HR3.out (by decide))⟩; have HS4 : Aside0 (Sb w4 sb s) := ⟨blk_grown HS3.out hg (Kd.R_ne HK3.out HS3.out (by decide))⟩; have HBS4 := Aside0.mk (HBS3.out.grownV HK3.out hg); clear ho hb hg hat))
              go_roundw
              case rel => exact ⟨i + 1, q, done ++ [x], r3, by omega, by go_num, HDN2, HBK3, HEND3, HK4, HBS4, HR4, HS4⟩
              case measure => simp [intOf]; omega
        · have f1 : decide ((i : Int) < (c : Int)) = false := decide_eq_false (by omega)
          have f2 : decide (i < c) = false := decide_eq_false hil
          have hbk := HBK.out
          rw [List.drop_of_length_le (by rw [HTL.out]; omega)] at hbk
          simp only [bkAll, Option.some.injEq] at hbk
          subst hbk
          have hend := HEND.out
          simp only [rdAdd, List.append_nil, rdEnd] at hend
          have c0 := HRJ.out.c0
          have c1 := HRJ.out.c1
          have c2 : wr.cell? ⟨sb, 0, none⟩ = some (.string s) := (blk_cell HSJ.out 0).trans rfl
          by_cases hp : p < s.size
          · rw [if_pos hp] at hend
            subst hend
            have g1 : decide ((p : Int) < (s.size : Int)) = true := decide_eq_true (by omega)
            have g2 : decide (p < s.size) = true := decide_eq_true hp
            go_wp2_with (first | (go_at_call 83; go_must (refine (fail_bad _ 16 _).mono ?_; rintro e w2 ⟨rfl, rfl⟩)))
            exact ⟨rfl, HBS.out.2, rfl⟩
          · rw [if_neg hp] at hend
            subst hend
            have g1 : decide ((p : Int) < (s.size : Int)) = false := decide_eq_false (by omega)
            have g2 : decide (p < s.size) = false := decide_eq_false hp
            go_wp2_with (first | (go_at_call 83; go_must (refine (fail_ok _ 16 _).mono ?_; rintro e w2 ⟨rfl, rfl⟩)))
            go_ret
            exact ⟨HBS.out.2, _, rfl, HKR.out⟩
theorem catch_idle (p q : Addr) (w : World) :
 CallsD Tryd.prog 115 #[.pointer (some p), .pointer (some q)] .returning w fun e u' w' => e = .returned (.tuple #[]) ∧ u' = .returning ∧ w' = w := by
 refine callsD_of_wpS Tryd.func115 rfl fun c₀ cs hu => ?_
 apply wpS_seq
 apply wpS_region
 simp [wpOpsS, go_sem, recoverD, hu, Tryd.ntmps115, Exit.thenS]
 refine wpS_of_wp ?_
 change Code.wp _ _ _ { tmps := #[.pointer (some p), .pointer (some q), .nilIface, undef, undef, .nilIface, undef, undef, undef, undef, undef, undef, undef, undef, undef, undef, undef], defers := [] } _
 go_wp2
 refine ⟨rfl, .returning, ?_, _, results_none rfl _ _ _, rfl, rfl, rfl⟩
 cases c₀
 simp_all
set_option maxRecDepth 100000 in
set_option maxHeartbeats 1000000 in
theorem catch_broken (g h : Nat) (vp : Value) (q0 why : Int) (w : World) (hP : w.heap[g]? = some (.cells #[vp] 38 (0, 0))) (hQ : w.heap[h]? = some (.cells #[.int .i64 q0] 24 (0, 0))) (hne : ¬ g = h) :
 CallsD Tryd.prog 115 #[.pointer (some ⟨g, 0, none⟩), .pointer (some ⟨h, 0, none⟩)] (.panicking [{ v := .iface 157 (.agg #[.int .i64 why]), recovered := false }]) w fun e u' w' =>
  e = .returned (.tuple #[]) ∧ u' = .panicking [{ v := .iface 157 (.agg #[.int .i64 why]), recovered := true }] ∧ w' = (((w.setCell ⟨g, 0, none⟩ (.slice none 0 0)).setCell ⟨h, 0, none⟩ (.int .i64 why)).alloc (.cells #[.int .i64 why] 157)).drew := by
 have hta : ∀ W, (Instr.typeAssert (.iface 157 (.agg #[.int .i64 why])) 20 157 true).run Tryd.prog W = .ok (.tuple #[.agg #[.int .i64 why], .bool true]) W := fun _ => by kernel_rfl
 have hg := blk_lt hP
 have hh := blk_lt hQ
 have c0 := (blk_cell hP 0).trans rfl
 have f0 := blk_frozen hP 0
 have c1 := (blk_cell hQ 0).trans rfl
 have f1 := blk_frozen hQ 0
 have hne2 : ¬ h = g := fun e => hne e.symm
 refine callsD_of_wpS Tryd.func115 rfl fun c₀ cs hu => ?_
 apply wpS_seq
 apply wpS_region
 simp [wpOpsS, go_sem, recoverD, hu, Tryd.ntmps115, Exit.thenS]
 refine wpS_of_wp ?_
 change Code.wp _ _ _ { tmps := #[.pointer (some ⟨g, 0, none⟩), .pointer (some ⟨h, 0, none⟩), .iface 157 (.agg #[.int .i64 why]), undef, undef, .iface 157 (.agg #[.int .i64 why]), undef, undef, undef, undef, undef, undef, undef, undef, undef, undef, undef], defers := [] } _
 go_wp2_with fail
 go_region
 go_wp2
 refine ⟨rfl, .panicking [{ v := .iface 157 (.agg #[.int .i64 why]), recovered := true }], ?_, _, results_none rfl _ _ _, rfl, rfl, rfl⟩
 cases c₀
 simp_all
theorem Sb.alloc {W : World} {sb : Nat} {s : ByteArray} (h : Sb W sb s) (o : Obj) : Sb (W.alloc o) sb s := blk_alloc h o
def rdL (R : Except Int (List S84)) : List S84 := match R with | .ok l => l | .error _ => []
def rdE (R : Except Int (List S84)) : Int := match R with | .ok _ => 0 | .error why => why
set_option maxRecDepth 100000 in
set_option maxHeartbeats 1000000 in
theorem gather_row (k rb sb : Nat) (s : ByteArray) (w : World) (R : Except Int (List S84)) (h : rdRow k s = some R) (hs : s.size ≤ 1000000000) (hR : Rd w rb s 0) (hS : Sb w sb s) :
 Calls Tryd.prog 80 #[.func (.func 81) #[] #[.pointer (some ⟨rb, 0, none⟩), .pointer (some ⟨sb, 0, none⟩)]] w fun e w' => w.grownBy w' (some rb) ∧ ∃ v0, e = .returned (.tuple #[v0, .int .i64 (rdE R)]) ∧ Kd.R k84 84 w' w.heap.size (fun _ => True) v0 (rdL R) := by
 have hmf : ∀ (fn : Fn) (first cap : Array Value) (w : World), (Instr.makeFunc fn first cap).run Tryd.prog w = .ok (.func fn first cap) w := fun _ _ _ _ => rfl
 have hrb := blk_lt hR
 have HR := Aside0.mk hR
 have HS := Aside0.mk hS
 clear hR hS
 have hP0 : ∀ w1, ((w.alloc (.cells #[.slice none 0 0] 38)).alloc (.cells #[.int .i64 0] 24)).grownBy w1 (some rb) → w1.heap[w.heap.size]? = some (.cells #[.slice none 0 0] 38 (0, 0)) ∧ w1.heap[w.heap.size + 1]? = some (.cells #[.int .i64 0] 24 (0, 0)) := fun w1 hg =>
  ⟨blk_grown (blk_alloc (heap_alloc_new w _) _) hg (fun e => by injection e with e; omega), blk_grown (by have := heap_alloc_new (w.alloc (.cells #[.slice none 0 0] 38)) (.cells #[.int .i64 0] 24); rw [World.size_alloc] at this; exact this) hg (fun e => by injection e with e; omega)⟩
 have HP0 := Aside0.mk hP0
 clear hP0
 rcases R with why | l
 · go_enter_defers Tryd.func80, Tryd.ntmps80
   go_wp2_with (first | (go_at_call 81; go_must (refine (rr_calls k rb sb s _ _ h hs (blk_alloc (blk_alloc HR.out _) _) ((HS.out.alloc _).alloc _)).mono ?_; rintro e w1 ⟨hg, rfl⟩)))
   refine leaves_cons (f := 115) (args := #[.pointer (some ⟨w.heap.size, 0, none⟩), .pointer (some ⟨w.heap.size + 1, 0, none⟩)]) (by simp) (by simp [go_sem]) ?_
   refine (catch_broken w.heap.size (w.heap.size + 1) _ 0 why w1 (HP0.out _ hg).1 (HP0.out _ hg).2 (by omega)).mono ?_
   rintro e u' w2 ⟨rfl, rfl, rfl⟩
   have b0 := blk_put (HP0.out _ hg).1 0 (.slice none 0 0) rfl
   have b1 := (heap_setCell_other _ ⟨w.heap.size + 1, 0, none⟩ w.heap.size (.int .i64 why) (by show w.heap.size ≠ w.heap.size + 1; omega)).trans b0
   have b2 := blk_put ((heap_setCell_other w1 ⟨w.heap.size, 0, none⟩ (w.heap.size + 1) (.slice none 0 0) (by show w.heap.size + 1 ≠ w.heap.size; omega)).trans (HP0.out _ hg).2) 0 (.int .i64 why) rfl
   have b3 := blk_drew (blk_alloc b1 (.cells #[.int .i64 why] 157))
   have b4 := blk_drew (blk_alloc b2 (.cells #[.int .i64 why] 157))
   have c3 : World.cell? _ ⟨w.heap.size, 0, none⟩ = some (.slice none 0 0) := (blk_cell b3 0).trans rfl
   have c4 : World.cell? _ ⟨w.heap.size + 1, 0, none⟩ = some (.int .i64 why) := (blk_cell b4 0).trans rfl
   have HGW : w.grownBy ((((w1.setCell ⟨w.heap.size, 0, none⟩ (.slice none 0 0)).setCell ⟨w.heap.size + 1, 0, none⟩ (.int .i64 why)).alloc (.cells #[.int .i64 why] 157)).drew) (some rb) := (grown_far (grown_far (grown_alloc (grown_alloc hg)) w.heap.size (Nat.le_refl _) 0 _) (w.heap.size + 1) (by omega) 0 _).trans (grown_of_below (below_drew (below_alloc (Below.refl _ _) _)) _)
   generalize (((w1.setCell ⟨w.heap.size, 0, none⟩ (.slice none 0 0)).setCell ⟨w.heap.size + 1, 0, none⟩ (.int .i64 why)).alloc (.cells #[.int .i64 why] 157)).drew = W2 at *
   simp [Leaves, settle, results, Tryd.results80, go_sem, c3, c4]
   exact ⟨HGW, _, ⟨rfl, rfl⟩, Kd.R_nil _ _ _ _ _⟩
 · go_enter_defers Tryd.func80, Tryd.ntmps80
   go_wp2_with (first | (go_at_call 81; go_must (refine (rr_calls k rb sb s _ _ h hs (blk_alloc (blk_alloc HR.out _) _) ((HS.out.alloc _).alloc _)).mono ?_; rintro e w1 ⟨hg, v0, rfl, hk⟩; obtain ⟨A, cc, rfl⟩ := Kd.R_slice hk; have HP := Aside0.mk (HP0.out _ hg); have HG := Aside0.mk hg; have HK := Aside0.mk hk; have c0 := (blk_cell HP.out.1 0).trans rfl; have c1 := (blk_cell HP.out.2 0).trans rfl; have f0 := blk_frozen HP.out.1 0; have f1 := blk_frozen HP.out.2 0; clear hk hg)))
   refine leaves_cons (f := 115) (args := #[.pointer (some ⟨w.heap.size, 0, none⟩), .pointer (some ⟨w.heap.size + 1, 0, none⟩)]) (by simp) (by simp [go_sem]) ?_
   refine (catch_idle ⟨w.heap.size, 0, none⟩ ⟨w.heap.size + 1, 0, none⟩ _).mono ?_
   rintro e u' w2 ⟨rfl, rfl, rfl⟩
   have b1 := (heap_setCell_other _ ⟨w.heap.size + 1, 0, none⟩ w.heap.size (.int .i64 0) (by show w.heap.size ≠ w.heap.size + 1; omega)).trans (blk_put HP.out.1 0 (.slice A l.length cc) rfl)
   have b2 := blk_put ((heap_setCell_other w1 ⟨w.heap.size, 0, none⟩ (w.heap.size + 1) (.slice A l.length cc) (by show w.heap.size + 1 ≠ w.heap.size; omega)).trans HP.out.2) 0 (.int .i64 0) rfl
   have c3 : World.cell? _ ⟨w.heap.size, 0, none⟩ = some (.slice A l.length cc) := (blk_cell b1 0).trans rfl
   have c4 : World.cell? _ ⟨w.heap.size + 1, 0, none⟩ = some (.int .i64 0) := (blk_cell b2 0).trans rfl
   have HGW : w.grownBy ((w1.setCell ⟨w.heap.size, 0, none⟩ (.slice A l.length cc)).setCell ⟨w.heap.size + 1, 0, none⟩ (.int .i64 0)) (some rb) := grown_far (grown_far (grown_alloc (grown_alloc HG.out)) w.heap.size (Nat.le_refl _) 0 _) (w.heap.size + 1) (by omega) 0 _
   have HKW := Kd.R_lower (base' := w.heap.size) (Kd.R_set (Kd.R_set HK.out HP.out.1 (by intro q hq; have hq : q ∈ [84] := hq; rw [List.mem_singleton.1 hq]; decide) 0 (.slice A l.length cc)) ((heap_setCell_other w1 ⟨w.heap.size, 0, none⟩ (w.heap.size + 1) (.slice A l.length cc) (by show w.heap.size + 1 ≠ w.heap.size; omega)).trans HP.out.2) (by intro q hq; have hq : q ∈ [84] := hq; rw [List.mem_singleton.1 hq]; decide) 0 (.int .i64 0)) (by simp; omega)
   generalize (w1.setCell ⟨w.heap.size, 0, none⟩ (.slice A l.length cc)).setCell ⟨w.heap.size + 1, 0, none⟩ (.int .i64 0) = W2 at *
   simp [Leaves, settle, results, Tryd.results80, go_sem, c3, c4]
   exact ⟨HGW, _, ⟨rfl, rfl⟩, HKW⟩
def bits_ReadRow.f (k : Nat) (s : ByteArray) : Option (List S84 × Int) := if s.size ≤ 1000000000 then (rdRow k s).map (fun R => (rdL R, rdE R)) else none
set_option maxHeartbeats 1000000 in
theorem bits_ReadRow.calls (k : Nat) (a0 : ByteArray) (r1 : List S84) (r2 : Int) (w : World) (h : bits_ReadRow.f k a0 = some (r1, r2)) :
 Calls Tryd.prog 43 #[.string a0] w fun e w' => ∃ v0_ : Value, e = .returned (.tuple #[v0_, .int .i64 r2]) ∧ Kd.R k84 84 w' w.heap.size (fun _ => True) v0_ r1 ∧ Below w.heap.size w w' := by
 unfold bits_ReadRow.f at h
 by_cases hs : a0.size ≤ 1000000000
 case neg => rw [if_neg hs] at h; exact absurd h (by simp)
 rw [if_pos hs] at h
 obtain ⟨R, hR, h2⟩ := Option.map_eq_some_iff.1 h
 simp only [Prod.mk.injEq] at h2
 obtain ⟨rfl, rfl⟩ := h2
 clear h
 have HRR := Aside0.mk hR
 clear hR
 have hmf : ∀ (fn : Fn) (first cap : Array Value) (w : World), (Instr.makeFunc fn first cap).run Tryd.prog w = .ok (.func fn first cap) w := fun _ _ _ _ => rfl
 have hB : Sb ((w.alloc (.cells #[.string a0] 9)).alloc (.cells #[.string a0, .int .i64 0] 128)) w.heap.size a0 := blk_alloc (heap_alloc_new w _) _
 have hA : Rd ((w.alloc (.cells #[.string a0] 9)).alloc (.cells #[.string a0, .int .i64 0] 128)) (w.heap.size + 1) a0 0 := by have := heap_alloc_new (w.alloc (.cells #[.string a0] 9)) (.cells #[.string a0, .int .i64 0] 128); rw [World.size_alloc] at this; exact this
 have HA := Aside0.mk hA
 have HB := Aside0.mk hB
 clear hA hB
 go_enter Tryd.func43, Tryd.ntmps43
 go_wp2_with (first | (go_at_call 80; go_must (refine (gather_row k (w.heap.size + 1) w.heap.size a0 _ R HRR.out hs HA.out HB.out).mono ?_; rintro e w1 ⟨hg, v0, rfl, hk⟩)))
 go_ret2
 refine ⟨v0, rfl, Kd.R_lower hk (by simp; omega), ?_⟩
 exact pw_below_grown (below_alloc (below_alloc (Below.refl _ _) _) _) _ (by simp; omega) hg (fun k hk => by injection hk with hk; omega)
end Go.Proofs.YtggbhdcgfnjogaaDoor.PPl

