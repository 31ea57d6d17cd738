import Derived.Test.YtggbhdcgfnjogaaDoorTPPlx0
import Derived.Test.YtggbhdcgfnjogaaDoorTPPlx15
namespace Go.Proofs.YtggbhdcgfnjogaaDoor.PPl
open Go.RowKit Go.Proofs.YtggbhdcgfnjogaaDoorW.PrintWords Go.Proofs.YtggbhdcgfnjogaaDoorW.PrintLast Go.Proofs.YtggbhdcgfnjogaaDoorW.PrintMore
set_option linter.unusedVariables false
set_option linter.unusedSimpArgs false
def Rd (W : World) (rb : Nat) (s : ByteArray) (p : Nat) : Prop := W.heap[rb]? = some (.cells #[.string s, .int .i64 (p : Int)] 128 (0, 0))
def brokenV (why : Int) : List PanicEntry := [{ v := .iface 157 (.agg #[.int .i64 why]), recovered := false }]
theorem Rd.c0 {W : World} {rb : Nat} {s : ByteArray} {p : Nat} (h : Rd W rb s p) : W.cell? ⟨rb, 0, none⟩ = some (.string s) := (blk_cell h 0).trans rfl
theorem Rd.c1 {W : World} {rb : Nat} {s : ByteArray} {p : Nat} (h : Rd W rb s p) : W.cell? ⟨rb, 1, none⟩ = some (.int .i64 (p : Int)) := (blk_cell h 1).trans rfl
theorem grown_set {w W : World} {b : Nat} (h : w.grownBy W (some b)) (i : Nat) (v : Value) : w.grownBy (W.setCell ⟨b, i, none⟩ v) (some b) := by
 refine ⟨h.os, h.tape, h.output, by simpa [World.setCell] using h.size, fun k hk hne => ?_⟩
 have hkb : k ≠ b := fun e => hne (by rw [e])
 exact (heap_setCell_other W ⟨b, i, none⟩ k v hkb).trans (h.block k hk hne)
theorem fail_ok (A : Option Addr) (why : Int) (w : World) : Calls Tryd.prog 83 #[.pointer A, .bool false, .int .i64 why] w fun e w' => e = .returned (.tuple #[]) ∧ w' = w := by
 go_enter Tryd.func83, Tryd.ntmps83
 go_wp2
 go_end0
 exact ⟨rfl, rfl⟩
theorem fail_bad (A : Option Addr) (why : Int) (w : World) : Calls Tryd.prog 83 #[.pointer A, .bool true, .int .i64 why] w fun e w' => e = .panicked (brokenV why) ∧ w' = w := by
 go_enter Tryd.func83, Tryd.ntmps83
 go_wp2
 exact ⟨rfl, rfl, rfl⟩
set_option maxHeartbeats 400000 in
set_option maxRecDepth 2000 in
theorem next_ok (rb : Nat) (s : ByteArray) (p : Nat) (w : World) (hR : Rd w rb s p) (hp : p < s.size) (hs : s.size ≤ 1000000000) :
 Calls Tryd.prog 82 #[.pointer (some ⟨rb, 0, none⟩)] w fun e w' => e = .returned (.int .u8 (bt s (p : Int))) ∧ Rd w' rb s (p + 1) ∧ w.grownBy w' (some rb) := by
 have h0 := hR.c0
 have h1 := hR.c1
 have hf := blk_frozen hR 1
 have d1 : decide ((s.size : Int) ≤ (p : Int)) = false := decide_eq_false (by omega)
 have d4 : decide (s.size ≤ p) = false := decide_eq_false (by omega)
 have d2 : decide ((p : Int) < (s.size : Int)) = true := decide_eq_true (by omega)
 have d3 : decide (p < s.size) = true := decide_eq_true hp
 have hb : ∀ h : p < s.size, ((s[p]'h).toNat : Int) = bt s (p : Int) := fun h => bt_at s (p : Int) h
 have HR := Aside0.mk hR
 clear hR
 go_enter Tryd.func82, Tryd.ntmps82
 go_wp2_with fail
 go_quiet (first | (go_at_call 83; exact Calls.quiet_of_same (fail_ok _ 11 _)))
 go_wp2
 have HR2 : Rd ((w.drewN nq).setCell ⟨rb, 1, none⟩ (.int .i64 ((p : Int) + 1))) rb s (p + 1) := blk_put (blk_drewN HR.out nq) 1 _ (by simp)
 have HG2 : w.grownBy ((w.drewN nq).setCell ⟨rb, 1, none⟩ (.int .i64 ((p : Int) + 1))) (some rb) := grown_set (grown_of_below (pw_below_drewN (Below.refl _ _) nq) _) _ _
 generalize (w.drewN nq).setCell ⟨rb, 1, none⟩ (.int .i64 ((p : Int) + 1)) = W2 at *
 have h0 := HR2.c0
 have h1 := HR2.c1
 rw [show ((p + 1 : Nat) : Int) = (p : Int) + 1 by omega] at h1
 go_quiet (fail)
 go_wp2
 go_ret
 exact ⟨rfl, blk_drewN HR2 _, ⟨HG2.os, HG2.tape, HG2.output, HG2.size, HG2.block⟩⟩
theorem next_short (rb : Nat) (s : ByteArray) (p : Nat) (w : World) (hR : Rd w rb s p) (hp : s.size ≤ p) :
 Calls Tryd.prog 82 #[.pointer (some ⟨rb, 0, none⟩)] w fun e w' => e = .panicked (brokenV 11) ∧ w.grownBy w' (some rb) := by
 have h0 := hR.c0
 have h1 := hR.c1
 have d1 : decide ((s.size : Int) ≤ (p : Int)) = true := decide_eq_true (by omega)
 clear hR
 go_enter Tryd.func82, Tryd.ntmps82
 go_wp2_with fail
 go_region_dies
 all_goals (refine (fail_bad _ 11 _).mono ?_; rintro e w' ⟨rfl, rfl⟩)
 all_goals exact ⟨rfl, rfl, grown_of_below (below_drew (Below.refl _ _)) _⟩
def valV (x : S84) : Value := .agg #[.int .i64 x.f0, .int .i64 x.f1, .string x.f2]
theorem grown_far {w W : World} {row : Option Nat} (h : w.grownBy W row) (g : Nat) (hg : w.heap.size ≤ g) (i : Nat) (v : Value) : w.grownBy (W.setCell ⟨g, i, none⟩ v) row := by
 refine ⟨h.os, h.tape, h.output, by simpa [World.setCell] using h.size, fun k hk hne => ?_⟩
 exact (heap_setCell_other W ⟨g, i, none⟩ k v (by show k ≠ g; omega)).trans (h.block k hk hne)
theorem grown_alloc {w W : World} {o : Obj} {row : Option Nat} (h : (w.alloc o).grownBy W row) : w.grownBy W row := (World.grownBy_alloc w o row).trans h
theorem end3 {w w1 : World} {rb g q : Nat} {s : ByteArray} (hg : w.heap.size ≤ g) (hrb : rb < w.heap.size) (HR : Rd w1 rb s q) (HG : w.grownBy w1 (some rb)) {a b c : Value} (a' b' c' : Value) (hh : w1.heap[g]? = some (.cells #[a, b, c] 84 (0, 0))) :
 (((w1.setCell ⟨g, 0, none⟩ a').setCell ⟨g, 1, none⟩ b').setCell ⟨g, 2, none⟩ c').heap[g]? = some (.cells #[a', b', c'] 84 (0, 0))
 ∧ Rd (((w1.setCell ⟨g, 0, none⟩ a').setCell ⟨g, 1, none⟩ b').setCell ⟨g, 2, none⟩ c') rb s q ∧ w.grownBy (((w1.setCell ⟨g, 0, none⟩ a').setCell ⟨g, 1, none⟩ b').setCell ⟨g, 2, none⟩ c') (some rb) := by
 have hne : rb ≠ g := by omega
 refine ⟨blk_put (blk_put (blk_put hh 0 a' rfl) 1 b' rfl) 2 c' rfl, ?_, grown_far (grown_far (grown_far HG g hg _ _) g hg _ _) g hg _ _⟩
 unfold Rd
 rw [heap_setCell_other _ _ rb _ hne, heap_setCell_other _ _ rb _ hne, heap_setCell_other _ _ rb _ hne]
 exact HR
theorem new3 {w w1 : World} {rb : Nat} {a b c : Value} (hrb : rb < w.heap.size) (hg : (w.alloc (.cells #[a, b, c] 84)).grownBy w1 (some rb)) : w1.heap[w.heap.size]? = some (.cells #[a, b, c] 84 (0, 0)) := (hg.block w.heap.size (by simp) (by simp; omega)).trans (heap_alloc_new w _)
theorem new3c {W : World} {g : Nat} {a b c : Value} (hh : W.heap[g]? = some (.cells #[a, b, c] 84 (0, 0))) : W.cell? ⟨g, 0, none⟩ = some a ∧ W.cell? ⟨g, 1, none⟩ = some b ∧ W.cell? ⟨g, 2, none⟩ = some c ∧ W.frozen? ⟨g, 0, none⟩ = false ∧ W.frozen? ⟨g, 1, none⟩ = false ∧ W.frozen? ⟨g, 2, none⟩ = false :=
 ⟨(blk_cell hh 0).trans rfl, (blk_cell hh 1).trans rfl, (blk_cell hh 2).trans rfl, blk_frozen hh 0, blk_frozen hh 1, blk_frozen hh 2⟩
def Sb (W : World) (sb : Nat) (s : ByteArray) : Prop := W.heap[sb]? = some (.cells #[.string s] 9 (0, 0))
def rdOut (w : World) (rb : Nat) (R : Except Int (List S84)) (e : Ending) (w' : World) : Prop := w.grownBy w' (some rb) ∧ match R with
 | .ok l => ∃ v0, e = .returned v0 ∧ Kd.R k84 84 w' w.heap.size (fun _ => True) v0 l
 | .error why => e = .panicked (brokenV why)
theorem Sb.grown {w w1 : World} {sb rb p : Nat} {s : ByteArray} (h : Sb w sb s) (hR : Rd w rb s p) (hg : w.grownBy w1 (some rb)) : Sb w1 sb s := by
 refine blk_grown h hg (fun e => ?_)
 injection e with e
 subst e
 unfold Sb at h; unfold Rd at hR
 rw [h] at hR
 injection hR with hR
 injection hR with _ hR
 exact absurd hR (by decide)
theorem rowV_grown {w w1 : World} {base rb p : Nat} {v : Value} {xs : List S84} {s : ByteArray} (h : Kd.R k84 84 w base (fun _ => True) v xs) (hR : Rd w rb s p) (hg : w.grownBy w1 (some rb)) : Kd.R k84 84 w1 base (fun _ => True) v xs :=
 Kd.R_mono (Kd.R_grown (Kd.R_types h hR (fun q hq => by
  have hq : q ∈ [84] := hq
  rw [List.mem_singleton.1 hq]
  decide)) hg (fun k hk e => hk.2 (by injection e))) (fun _ _ => trivial)
theorem grown_then {a b c : World} {row row' : Option Nat} (h : a.grownBy b row) (k : b.grownBy c row') (hr : ∀ j, row' = some j → a.heap.size ≤ j) : a.grownBy c row :=
 ⟨k.os.trans h.os, k.tape.trans h.tape, k.output.trans h.output, Nat.le_trans h.size k.size, fun i hi hne => (k.block i (Nat.lt_of_lt_of_le hi h.size) (fun e => by have := hr i e.symm; omega)).trans (h.block i hi hne)⟩
def Bt (w W : World) (rb : Nat) (v : Value) (xs : List Int) : Prop := W.ownsRow w.heap.size 5 1 v xs.length (nums .u8 xs) ∧ w.grownBy W (some rb)
theorem Bt.alloc {w W : World} {rb : Nat} {v : Value} {xs : List Int} (h : Bt w W rb v xs) (o : Obj) : Bt w (W.alloc o) rb v xs := ⟨h.1.alloc o, h.2.trans (World.grownBy_alloc W o _)⟩
theorem Bt.grownR {w W w1 : World} {rb p : Nat} {v : Value} {xs : List Int} {s : ByteArray} (h : Bt w W rb v xs) (hR : Rd W rb s p) (hg : W.grownBy w1 (some rb)) : Bt w w1 rb v xs := by
 refine ⟨h.1.kept hg (.inr fun e => ?_), h.2.trans hg⟩
 obtain ⟨cells, hc⟩ := own_typed h.1 rb e
 unfold Rd at hR
 rw [hc] at hR
 injection hR with hR
 injection hR with _ hR
 exact absurd hR (by decide)
section
variable {P : Program} {ops : Array Oper} {rest : List Oper} {o : Oper} {a : Act} {Q : Exit → Act → World → Prop}
theorem Bt.row {w W : World} {rb : Nat} (hgd : o.guard = none) (s x : Operand) (t : TypeId)
 (ho : o.op = .call { callee := .builtin .append, args := #[s, x], argTypes := #[t, t] }) (ht : P.underlying t = some (.slice 5)) (hinfo : (P.info? 5).map (fun i => (i.zero, i.size, i.bytes)) = some (some (.int .u8 0), 1, 1))
 (v : Value) (xs ys : List Int) (A : Option Addr) (m c : Nat) (hs : a.eval s = v) (hx : a.eval x = .slice A m c) (HR : ReadsInt W .u8 A m ys) (HB : Bt w W rb v xs) (hl : xs.length + m ≤ 2000000000)
 (h : ∀ v1 w1, Bt w w1 rb v1 (xs ++ ys) → Kept W w1 → wpList P ops Q rest (a.put o.dst v1) w1) : wpList P ops Q (o :: rest) a W :=
 print_append_row (w0 := W) w.heap.size hgd s x t 5 .u8 1 ho ht hinfo (by omega) v xs ys A m c hs hx HB.1 HR (Below.refl _ _) HB.2.size (by omega) (fun v1 w1 h1 h2 h3 _ => h v1 w1 ⟨h1, grown_then HB.2 h3 (fun j hj => own_base HB.1 j hj)⟩ (Kept.of HB.1 h3))
end
theorem Rd.kept {W w1 : World} {rb p : Nat} {s : ByteArray} (h : Rd W rb s p) (hk : Kept W w1) : Rd w1 rb s p := hk rb _ _ (by decide) h
theorem Kept.alloc {W w1 : World} {o : Obj} (h : Kept (W.alloc o) w1) : Kept W w1 := fun k c t ht hk => h k c t ht (blk_alloc hk o)
theorem catch_idle (p q : Addr) (w : World) :
 CallsD Tryd.prog 115 #[.pointer (some p), .pointer (some q)] .returning w fun e u' w' => e = .returned (.tuple #[]) ∧ u' = .returning ∧ w' = w := by
 refine callsD_of_wpS Tryd.func115 rfl fun c₀ cs hu => ?_
 apply wpS_seq
 apply wpS_region
 simp [wpOpsS, go_sem, recoverD, hu, Tryd.ntmps115, Exit.thenS]
 refine wpS_of_wp ?_
 change Code.wp _ _ _ { tmps := #[.pointer (some p), .pointer (some q), .nilIface, undef, undef, .nilIface, undef, undef, undef, undef, undef, undef, undef, undef, undef, undef, undef], defers := [] } _
 go_wp2
 refine ⟨rfl, .returning, ?_, _, results_none rfl _ _ _, rfl, rfl, rfl⟩
 cases c₀
 simp_all
set_option maxRecDepth 100000 in
set_option maxHeartbeats 1000000 in
theorem catch_broken (g h : Nat) (vp : Value) (q0 why : Int) (w : World) (hP : w.heap[g]? = some (.cells #[vp] 38 (0, 0))) (hQ : w.heap[h]? = some (.cells #[.int .i64 q0] 24 (0, 0))) (hne : ¬ g = h) :
 CallsD Tryd.prog 115 #[.pointer (some ⟨g, 0, none⟩), .pointer (some ⟨h, 0, none⟩)] (.panicking [{ v := .iface 157 (.agg #[.int .i64 why]), recovered := false }]) w fun e u' w' =>
  e = .returned (.tuple #[]) ∧ u' = .panicking [{ v := .iface 157 (.agg #[.int .i64 why]), recovered := true }] ∧ w' = (((w.setCell ⟨g, 0, none⟩ (.slice none 0 0)).setCell ⟨h, 0, none⟩ (.int .i64 why)).alloc (.cells #[.int .i64 why] 157)).drew := by
 have hta : ∀ W, (Instr.typeAssert (.iface 157 (.agg #[.int .i64 why])) 20 157 true).run Tryd.prog W = .ok (.tuple #[.agg #[.int .i64 why], .bool true]) W := fun _ => by kernel_rfl
 have hg := blk_lt hP
 have hh := blk_lt hQ
 have c0 := (blk_cell hP 0).trans rfl
 have f0 := blk_frozen hP 0
 have c1 := (blk_cell hQ 0).trans rfl
 have f1 := blk_frozen hQ 0
 have hne2 : ¬ h = g := fun e => hne e.symm
 refine callsD_of_wpS Tryd.func115 rfl fun c₀ cs hu => ?_
 apply wpS_seq
 apply wpS_region
 simp [wpOpsS, go_sem, recoverD, hu, Tryd.ntmps115, Exit.thenS]
 refine wpS_of_wp ?_
 change Code.wp _ _ _ { tmps := #[.pointer (some ⟨g, 0, none⟩), .pointer (some ⟨h, 0, none⟩), .iface 157 (.agg #[.int .i64 why]), undef, undef, .iface 157 (.agg #[.int .i64 why]), undef, undef, undef, undef, undef, undef, undef, undef, undef, undef, undef], defers := [] } _
 go_wp2_with fail
 go_region
 go_wp2
 refine ⟨rfl, .panicking [{ v := .iface 157 (.agg #[.int .i64 why]), recovered := true }], ?_, _, results_none rfl _ _ _, rfl, rfl, rfl⟩
 cases c₀
 simp_all
theorem Sb.alloc {W : World} {sb : Nat} {s : ByteArray} (h : Sb W sb s) (o : Obj) : Sb (W.alloc o) sb s := blk_alloc h o
def rdL (R : Except Int (List S84)) : List S84 := match R with | .ok l => l | .error _ => []
def rdE (R : Except Int (List S84)) : Int := match R with | .ok _ => 0 | .error why => why
end Go.Proofs.YtggbhdcgfnjogaaDoor.PPl

