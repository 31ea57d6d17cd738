import Derived.Test.YtfmgbgkcmmpcfaaGreatDoorCPTkx0
import Derived.Test.YtfmgbgkcmmpcfaaGreatDoorCPTkx1
import Derived.Test.YtfmgbgkcmmpcfaaGreatDoorCPTkx2
import Derived.Test.YtfmgbgkcmmpcfaaGreatDoorCPTkx3
import Derived.Test.YtfmgbgkcmmpcfaaGreatDoorCPTkx4
namespace Go.Proofs.YtfmgbgkcmmpcfaaGreatDoor.PTk
open Go.RowKit Go.Proofs.YtfmgbgkcmmpcfaaGreatDoorW.PrintWords Go.Proofs.YtfmgbgkcmmpcfaaGreatDoorW.PrintLast Go.Proofs.YtfmgbgkcmmpcfaaGreatDoorW.PrintMore
attribute [local go_sem] zp zC
set_option linter.unusedVariables false
set_option linter.unusedSimpArgs false
def xr (s : ByteArray) : Int × Int × Bool := if s.toList = ([97, 98, 115] : List UInt8) then (1, 1, true) else if s.toList = ([108, 101, 110, 103, 116, 104] : List UInt8) then (1, 1, true) else if s.toList = ([108, 111, 119, 101, 114] : List UInt8) then (1, 1, true) else if s.toList = ([117, 112, 112, 101, 114] : List UInt8) then (1, 1, true) else if s.toList = ([110, 117, 108, 108, 105, 102] : List UInt8) then (2, 2, true) else if s.toList = ([115, 117, 98, 115, 116, 114] : List UInt8) then (3, 3, true) else if s.toList = ([99, 111, 97, 108, 101, 115, 99, 101] : List UInt8) then (1, 16, true) else if s.toList = ([108, 101, 97, 115, 116] : List UInt8) then (1, 16, true) else if s.toList = ([103, 114, 101, 97, 116, 101, 115, 116] : List UInt8) then (1, 16, true) else (0, 0, false)
def vA (s : ByteArray) (n : Nat) : Bool := (xr s).2.2 && decide ((xr s).1 ≤ (n : Int)) && decide ((n : Int) ≤ (xr s).2.1)
def qY (op : Int) (s : ByteArray) (n : Nat) : Bool :=
 if 1 ≤ op ∧ op ≤ 6 then decide (n = 0) else if 7 ≤ op ∧ op ≤ 10 then decide (n = 1) else if 11 ≤ op ∧ op ≤ 25 then decide (n = 2) else if op = 26 then decide (n = 3) else if op = 27 then decide (2 ≤ n ∧ n ≤ 17) else if op = 28 then decide (3 ≤ n ∧ n ≤ 33 ∧ n % 2 = 1) else if op = 29 then vA s n else false
abbrev ndv (x : Nd) : Value := .agg #[.int .i64 x.f0, .int .i64 x.f1, .int .i64 x.f2, .string x.f3]
theorem dyad_at (op : Int) (h1 : 11 ≤ op) (h2 : op ≤ 24) : z7.f 40 op = some (str (vf op), lvlI op) := by
 have hc : op = 11 ∨ op = 12 ∨ op = 13 ∨ op = 14 ∨ op = 15 ∨ op = 16 ∨ op = 17 ∨ op = 18 ∨ op = 19 ∨ op = 20 ∨ op = 21 ∨ op = 22 ∨ op = 23 ∨ op = 24 := by omega
 rcases hc with rfl | rfl | rfl | rfl | rfl | rfl | rfl | rfl | rfl | rfl | rfl | rfl | rfl | rfl <;> (clear h1 h2; first | kernel_rfl | simp [z7.f, z7.j0, z7.j1, zq.f, qV.f, qV.l0, xR, vf, lvlI, str, wrap64])
theorem span_at (s : ByteArray) : qP.f 1 s = some ((xr s).1, (xr s).2.1, (xr s).2.2) := by
 unfold qP.f xr
 by_cases h0 : s.toList = ([97, 98, 115] : List UInt8)
 · simp [h0, qP.j0]
 by_cases h1 : s.toList = ([108, 101, 110, 103, 116, 104] : List UInt8)
 · simp [h1, qP.j0]
 by_cases h2 : s.toList = ([108, 111, 119, 101, 114] : List UInt8)
 · simp [h2, qP.j0]
 by_cases h3 : s.toList = ([117, 112, 112, 101, 114] : List UInt8)
 · simp [h3, qP.j0]
 by_cases h4 : s.toList = ([110, 117, 108, 108, 105, 102] : List UInt8)
 · simp [h4, qP.j0]
 by_cases h5 : s.toList = ([115, 117, 98, 115, 116, 114] : List UInt8)
 · simp [h5, qP.j0]
 by_cases h6 : s.toList = ([99, 111, 97, 108, 101, 115, 99, 101] : List UInt8)
 · simp [h6, qP.j0]
 by_cases h7 : s.toList = ([108, 101, 97, 115, 116] : List UInt8)
 · simp [h7, qP.j0]
 by_cases h8 : s.toList = ([103, 114, 101, 97, 116, 101, 115, 116] : List UInt8)
 · simp [h8, qP.j0]
 simp only [h0, h1, h2, h3, h4, h5, h6, h7, h8, if_false, qP.j0, beq_iff_eq]
theorem span_least (s : ByteArray) (h : (xr s).2.2 = true) : 1 ≤ (xr s).1 := by
 unfold xr at h ⊢
 by_cases h0 : s.toList = ([97, 98, 115] : List UInt8)
 · simp [h0]
 by_cases h1 : s.toList = ([108, 101, 110, 103, 116, 104] : List UInt8)
 · simp [h1]
 by_cases h2 : s.toList = ([108, 111, 119, 101, 114] : List UInt8)
 · simp [h2]
 by_cases h3 : s.toList = ([117, 112, 112, 101, 114] : List UInt8)
 · simp [h3]
 by_cases h4 : s.toList = ([110, 117, 108, 108, 105, 102] : List UInt8)
 · simp [h4]
 by_cases h5 : s.toList = ([115, 117, 98, 115, 116, 114] : List UInt8)
 · simp [h5]
 by_cases h6 : s.toList = ([99, 111, 97, 108, 101, 115, 99, 101] : List UInt8)
 · simp [h6]
 by_cases h7 : s.toList = ([108, 101, 97, 115, 116] : List UInt8)
 · simp [h7]
 by_cases h8 : s.toList = ([103, 114, 101, 97, 116, 101, 115, 116] : List UInt8)
 · simp [h8]
 simp only [h0, h1, h2, h3, h4, h5, h6, h7, h8, if_false] at h
 cases h
set_option maxHeartbeats 4000000 in
set_option maxRecDepth 100000 in
theorem join_far (x : Nd) (w : World) (A : Option Addr) (n c : Nat) (hx : x.f0 < 1 ∨ 29 < x.f0) : Calls Tryz.prog 170 #[ndv x, .slice A n c] w fun e w' => e = .returned .nilIface ∧ Below w.heap.size w w' := by
 have HB := Aside0.mk (q8 (Below.refl w.heap.size w) (.cells #[.int .i64 x.f0, .int .i64 x.f1, .int .i64 x.f2, .string x.f3] 86));obtain ⟨op, f1, f2, f3⟩ := x
 dsimp only at hx HB ⊢
 have e7 : (op == 7) = false := by simp; omega
 have e8 : (op == 8) = false := by simp; omega
 have e9 : (op == 9) = false := by simp; omega
 have ab : (op == 10) = false := by simp; omega
 have ac : (op == 25) = false := by simp; omega
 have ae : (op == 26) = false := by simp; omega
 have af : (op == 27) = false := by simp; omega
 have ag : (op == 28) = false := by simp; omega
 have ah : (op == 29) = false := by simp; omega
 rcases hx with hx | hx
 · have d1 : decide ((1 : Int) ≤ op) = false := decide_eq_false (by omega)
   have d2 : decide ((11 : Int) ≤ op) = false := decide_eq_false (by omega)
   go_enter Tryz.func170, Tryz.ntmps170
   go_wp2
   go_ret
   exact ⟨rfl, HB.out⟩
 · have d1 : decide (op ≤ (6 : Int)) = false := decide_eq_false (by omega)
   have d2 : decide (op ≤ (24 : Int)) = false := decide_eq_false (by omega);have d3 : decide ((1 : Int) ≤ op) = true := decide_eq_true (by omega);have d4 : decide ((11 : Int) ≤ op) = true := decide_eq_true (by omega)
   go_enter Tryz.func170, Tryz.ntmps170
   go_wp2
   go_ret
   exact ⟨rfl, HB.out⟩
set_option maxHeartbeats 4000000 in
set_option maxRecDepth 100000 in
theorem join_miss7 (w : World) (f1 f2 : Int) (f3 : ByteArray) (A : Option Addr) (n c : Nat) (hn : n ≠ 1) (ac : n ≤ 1000000000) : Calls Tryz.prog 170 #[.agg #[.int .i64 7, .int .i64 f1, .int .i64 f2, .string f3], .slice A n c] w fun e w' => e = .returned .nilIface ∧ Below w.heap.size w w' := by
 have HB := q8 (Below.refl w.heap.size w) (.cells #[.int .i64 7, .int .i64 f1, .int .i64 f2, .string f3] 86);have K2 := qL w (.cells #[.int .i64 7, .int .i64 f1, .int .i64 f2, .string f3] 86);generalize ae : w.alloc (.cells #[.int .i64 7, .int .i64 f1, .int .i64 f2, .string f3] 86) = w0 at HB K2;have af : w0.cell? ⟨w.heap.size, 0, none⟩ = some (.int .i64 7) := (qa K2 0).trans rfl;have ag : w0.cell? ⟨w.heap.size, 1, none⟩ = some (.int .i64 f1) := (qa K2 1).trans rfl;have ah : w0.cell? ⟨w.heap.size, 2, none⟩ = some (.int .i64 f2) := (qa K2 2).trans rfl;have ai : w0.cell? ⟨w.heap.size, 3, none⟩ = some (.string f3) := (qa K2 3).trans rfl;have HB := Aside0.mk HB
 have m1 : ((n : Int) == 1) = false := by simp; omega
 go_enter Tryz.func170, Tryz.ntmps170
 go_wp2
 go_ret
 exact ⟨rfl, HB.out⟩
set_option maxHeartbeats 4000000 in
set_option maxRecDepth 100000 in
theorem join_miss8 (w : World) (f1 f2 : Int) (f3 : ByteArray) (A : Option Addr) (n c : Nat) (hn : n ≠ 1) (ac : n ≤ 1000000000) : Calls Tryz.prog 170 #[.agg #[.int .i64 8, .int .i64 f1, .int .i64 f2, .string f3], .slice A n c] w fun e w' => e = .returned .nilIface ∧ Below w.heap.size w w' := by
 have HB := q8 (Below.refl w.heap.size w) (.cells #[.int .i64 8, .int .i64 f1, .int .i64 f2, .string f3] 86);have K2 := qL w (.cells #[.int .i64 8, .int .i64 f1, .int .i64 f2, .string f3] 86);generalize ae : w.alloc (.cells #[.int .i64 8, .int .i64 f1, .int .i64 f2, .string f3] 86) = w0 at HB K2;have af : w0.cell? ⟨w.heap.size, 0, none⟩ = some (.int .i64 8) := (qa K2 0).trans rfl;have ag : w0.cell? ⟨w.heap.size, 1, none⟩ = some (.int .i64 f1) := (qa K2 1).trans rfl;have ah : w0.cell? ⟨w.heap.size, 2, none⟩ = some (.int .i64 f2) := (qa K2 2).trans rfl;have ai : w0.cell? ⟨w.heap.size, 3, none⟩ = some (.string f3) := (qa K2 3).trans rfl;have HB := Aside0.mk HB
 have m1 : ((n : Int) == 1) = false := by simp; omega
 go_enter Tryz.func170, Tryz.ntmps170
 go_wp2
 go_ret
 exact ⟨rfl, HB.out⟩
set_option maxHeartbeats 4000000 in
set_option maxRecDepth 100000 in
theorem join_miss9 (w : World) (f1 f2 : Int) (f3 : ByteArray) (A : Option Addr) (n c : Nat) (hn : n ≠ 1) (ac : n ≤ 1000000000) : Calls Tryz.prog 170 #[.agg #[.int .i64 9, .int .i64 f1, .int .i64 f2, .string f3], .slice A n c] w fun e w' => e = .returned .nilIface ∧ Below w.heap.size w w' := by
 have HB := q8 (Below.refl w.heap.size w) (.cells #[.int .i64 9, .int .i64 f1, .int .i64 f2, .string f3] 86);have K2 := qL w (.cells #[.int .i64 9, .int .i64 f1, .int .i64 f2, .string f3] 86);generalize ae : w.alloc (.cells #[.int .i64 9, .int .i64 f1, .int .i64 f2, .string f3] 86) = w0 at HB K2;have af : w0.cell? ⟨w.heap.size, 0, none⟩ = some (.int .i64 9) := (qa K2 0).trans rfl;have ag : w0.cell? ⟨w.heap.size, 1, none⟩ = some (.int .i64 f1) := (qa K2 1).trans rfl;have ah : w0.cell? ⟨w.heap.size, 2, none⟩ = some (.int .i64 f2) := (qa K2 2).trans rfl;have ai : w0.cell? ⟨w.heap.size, 3, none⟩ = some (.string f3) := (qa K2 3).trans rfl;have HB := Aside0.mk HB
 have m1 : ((n : Int) == 1) = false := by simp; omega
 go_enter Tryz.func170, Tryz.ntmps170
 go_wp2
 go_ret
 exact ⟨rfl, HB.out⟩
set_option maxHeartbeats 4000000 in
set_option maxRecDepth 100000 in
theorem join_miss10 (w : World) (f1 f2 : Int) (f3 : ByteArray) (A : Option Addr) (n c : Nat) (hn : n ≠ 1) (ac : n ≤ 1000000000) : Calls Tryz.prog 170 #[.agg #[.int .i64 10, .int .i64 f1, .int .i64 f2, .string f3], .slice A n c] w fun e w' => e = .returned .nilIface ∧ Below w.heap.size w w' := by
 have HB := q8 (Below.refl w.heap.size w) (.cells #[.int .i64 10, .int .i64 f1, .int .i64 f2, .string f3] 86);have K2 := qL w (.cells #[.int .i64 10, .int .i64 f1, .int .i64 f2, .string f3] 86);generalize ae : w.alloc (.cells #[.int .i64 10, .int .i64 f1, .int .i64 f2, .string f3] 86) = w0 at HB K2;have af : w0.cell? ⟨w.heap.size, 0, none⟩ = some (.int .i64 10) := (qa K2 0).trans rfl;have ag : w0.cell? ⟨w.heap.size, 1, none⟩ = some (.int .i64 f1) := (qa K2 1).trans rfl;have ah : w0.cell? ⟨w.heap.size, 2, none⟩ = some (.int .i64 f2) := (qa K2 2).trans rfl;have ai : w0.cell? ⟨w.heap.size, 3, none⟩ = some (.string f3) := (qa K2 3).trans rfl;have HB := Aside0.mk HB
 have m1 : ((n : Int) == 1) = false := by simp; omega
 go_enter Tryz.func170, Tryz.ntmps170
 go_wp2
 go_ret
 exact ⟨rfl, HB.out⟩
set_option maxHeartbeats 4000000 in
set_option maxRecDepth 100000 in
theorem join_miss25 (w : World) (f1 f2 : Int) (f3 : ByteArray) (A : Option Addr) (n c : Nat) (hn : n ≠ 2) (ac : n ≤ 1000000000) : Calls Tryz.prog 170 #[.agg #[.int .i64 25, .int .i64 f1, .int .i64 f2, .string f3], .slice A n c] w fun e w' => e = .returned .nilIface ∧ Below w.heap.size w w' := by
 have HB := q8 (Below.refl w.heap.size w) (.cells #[.int .i64 25, .int .i64 f1, .int .i64 f2, .string f3] 86);have K2 := qL w (.cells #[.int .i64 25, .int .i64 f1, .int .i64 f2, .string f3] 86);generalize ae : w.alloc (.cells #[.int .i64 25, .int .i64 f1, .int .i64 f2, .string f3] 86) = w0 at HB K2;have af : w0.cell? ⟨w.heap.size, 0, none⟩ = some (.int .i64 25) := (qa K2 0).trans rfl;have ag : w0.cell? ⟨w.heap.size, 1, none⟩ = some (.int .i64 f1) := (qa K2 1).trans rfl;have ah : w0.cell? ⟨w.heap.size, 2, none⟩ = some (.int .i64 f2) := (qa K2 2).trans rfl;have ai : w0.cell? ⟨w.heap.size, 3, none⟩ = some (.string f3) := (qa K2 3).trans rfl;have HB := Aside0.mk HB
 have m1 : ((n : Int) == 2) = false := by simp; omega
 go_enter Tryz.func170, Tryz.ntmps170
 go_wp2
 go_ret
 exact ⟨rfl, HB.out⟩
set_option maxHeartbeats 4000000 in
set_option maxRecDepth 100000 in
theorem join_miss26 (w : World) (f1 f2 : Int) (f3 : ByteArray) (A : Option Addr) (n c : Nat) (hn : n ≠ 3) (ac : n ≤ 1000000000) : Calls Tryz.prog 170 #[.agg #[.int .i64 26, .int .i64 f1, .int .i64 f2, .string f3], .slice A n c] w fun e w' => e = .returned .nilIface ∧ Below w.heap.size w w' := by
 have HB := q8 (Below.refl w.heap.size w) (.cells #[.int .i64 26, .int .i64 f1, .int .i64 f2, .string f3] 86);have K2 := qL w (.cells #[.int .i64 26, .int .i64 f1, .int .i64 f2, .string f3] 86);generalize ae : w.alloc (.cells #[.int .i64 26, .int .i64 f1, .int .i64 f2, .string f3] 86) = w0 at HB K2;have af : w0.cell? ⟨w.heap.size, 0, none⟩ = some (.int .i64 26) := (qa K2 0).trans rfl;have ag : w0.cell? ⟨w.heap.size, 1, none⟩ = some (.int .i64 f1) := (qa K2 1).trans rfl;have ah : w0.cell? ⟨w.heap.size, 2, none⟩ = some (.int .i64 f2) := (qa K2 2).trans rfl;have ai : w0.cell? ⟨w.heap.size, 3, none⟩ = some (.string f3) := (qa K2 3).trans rfl;have HB := Aside0.mk HB
 have m1 : ((n : Int) == 3) = false := by simp; omega
 go_enter Tryz.func170, Tryz.ntmps170
 go_wp2
 go_ret
 exact ⟨rfl, HB.out⟩
set_option maxHeartbeats 4000000 in
set_option maxRecDepth 100000 in
theorem join_miss27 (w : World) (f1 f2 : Int) (f3 : ByteArray) (A : Option Addr) (n c : Nat) (hn : n < 2 ∨ 17 < n) (ae : n ≤ 1000000000) : Calls Tryz.prog 170 #[.agg #[.int .i64 27, .int .i64 f1, .int .i64 f2, .string f3], .slice A n c] w fun e w' => e = .returned .nilIface ∧ Below w.heap.size w w' := by
 have HB := q8 (Below.refl w.heap.size w) (.cells #[.int .i64 27, .int .i64 f1, .int .i64 f2, .string f3] 86);have K2 := qL w (.cells #[.int .i64 27, .int .i64 f1, .int .i64 f2, .string f3] 86);generalize af : w.alloc (.cells #[.int .i64 27, .int .i64 f1, .int .i64 f2, .string f3] 86) = w0 at HB K2;have ag : w0.cell? ⟨w.heap.size, 0, none⟩ = some (.int .i64 27) := (qa K2 0).trans rfl;have ah : w0.cell? ⟨w.heap.size, 1, none⟩ = some (.int .i64 f1) := (qa K2 1).trans rfl;have ai : w0.cell? ⟨w.heap.size, 2, none⟩ = some (.int .i64 f2) := (qa K2 2).trans rfl;have aj : w0.cell? ⟨w.heap.size, 3, none⟩ = some (.string f3) := (qa K2 3).trans rfl;have HB := Aside0.mk HB
 rcases hn with hn | hn
 · have m1 : decide ((2 : Int) ≤ (n : Int)) = false := decide_eq_false (by omega)
   go_enter Tryz.func170, Tryz.ntmps170
   go_wp2
   go_ret
   exact ⟨rfl, HB.out⟩
 · have m1 : decide ((2 : Int) ≤ (n : Int)) = true := decide_eq_true (by omega)
   have m2 : decide ((n : Int) ≤ (17 : Int)) = false := decide_eq_false (by omega)
   go_enter Tryz.func170, Tryz.ntmps170
   go_wp2
   go_ret
   exact ⟨rfl, HB.out⟩
set_option maxHeartbeats 4000000 in
set_option maxRecDepth 100000 in
theorem join_miss28 (w : World) (f1 f2 : Int) (f3 : ByteArray) (A : Option Addr) (n c : Nat) (hn : n < 3 ∨ 33 < n ∨ (3 ≤ n ∧ n ≤ 33 ∧ n % 2 = 0)) (ae : n ≤ 1000000000) : Calls Tryz.prog 170 #[.agg #[.int .i64 28, .int .i64 f1, .int .i64 f2, .string f3], .slice A n c] w fun e w' => e = .returned .nilIface ∧ Below w.heap.size w w' := by
 have HB := q8 (Below.refl w.heap.size w) (.cells #[.int .i64 28, .int .i64 f1, .int .i64 f2, .string f3] 86);have K2 := qL w (.cells #[.int .i64 28, .int .i64 f1, .int .i64 f2, .string f3] 86);generalize af : w.alloc (.cells #[.int .i64 28, .int .i64 f1, .int .i64 f2, .string f3] 86) = w0 at HB K2;have ag : w0.cell? ⟨w.heap.size, 0, none⟩ = some (.int .i64 28) := (qa K2 0).trans rfl;have ah : w0.cell? ⟨w.heap.size, 1, none⟩ = some (.int .i64 f1) := (qa K2 1).trans rfl;have ai : w0.cell? ⟨w.heap.size, 2, none⟩ = some (.int .i64 f2) := (qa K2 2).trans rfl;have aj : w0.cell? ⟨w.heap.size, 3, none⟩ = some (.string f3) := (qa K2 3).trans rfl;have HB := Aside0.mk HB
 rcases hn with hn | hn | hn
 · have m1 : decide ((3 : Int) ≤ (n : Int)) = false := decide_eq_false (by omega)
   go_enter Tryz.func170, Tryz.ntmps170
   go_wp2
   go_ret
   exact ⟨rfl, HB.out⟩
 · have m1 : decide ((3 : Int) ≤ (n : Int)) = true := decide_eq_true (by omega)
   have m2 : decide ((n : Int) ≤ (33 : Int)) = false := decide_eq_false (by omega)
   go_enter Tryz.func170, Tryz.ntmps170
   go_wp2
   go_ret
   exact ⟨rfl, HB.out⟩
 · have m1 : decide ((3 : Int) ≤ (n : Int)) = true := decide_eq_true (by omega)
   have m2 : decide ((n : Int) ≤ (33 : Int)) = true := decide_eq_true (by omega)
   have m3 : Int.tmod (n : Int) 2 = 0 := by rw [Int.tmod_eq_emod_of_nonneg (by omega)]; omega
   go_enter Tryz.func170, Tryz.ntmps170
   go_wp2
   go_ret
   exact ⟨rfl, HB.out⟩
set_option maxHeartbeats 4000000 in
set_option maxRecDepth 100000 in
theorem join_missleaf (w : World) (op f1 f2 : Int) (f3 : ByteArray) (A : Option Addr) (n c : Nat) (h1 : 1 ≤ op) (h2 : op ≤ 6) (hn : n ≠ 0) : Calls Tryz.prog 170 #[.agg #[.int .i64 op, .int .i64 f1, .int .i64 f2, .string f3], .slice A n c] w fun e w' => e = .returned .nilIface ∧ Below w.heap.size w w' := by
 have HB := q8 (Below.refl w.heap.size w) (.cells #[.int .i64 op, .int .i64 f1, .int .i64 f2, .string f3] 86);have K2 := qL w (.cells #[.int .i64 op, .int .i64 f1, .int .i64 f2, .string f3] 86);generalize ac : w.alloc (.cells #[.int .i64 op, .int .i64 f1, .int .i64 f2, .string f3] 86) = w0 at HB K2;have ae : w0.cell? ⟨w.heap.size, 0, none⟩ = some (.int .i64 op) := (qa K2 0).trans rfl;have af : w0.cell? ⟨w.heap.size, 1, none⟩ = some (.int .i64 f1) := (qa K2 1).trans rfl;have ag : w0.cell? ⟨w.heap.size, 2, none⟩ = some (.int .i64 f2) := (qa K2 2).trans rfl;have ah : w0.cell? ⟨w.heap.size, 3, none⟩ = some (.string f3) := (qa K2 3).trans rfl;have HB := Aside0.mk HB
 have e7 : (op == 7) = false := by simp; omega
 have e8 : (op == 8) = false := by simp; omega
 have e9 : (op == 9) = false := by simp; omega
 have ai : (op == 10) = false := by simp; omega
 have aj : (op == 25) = false := by simp; omega
 have ak : (op == 26) = false := by simp; omega
 have al : (op == 27) = false := by simp; omega
 have am : (op == 28) = false := by simp; omega
 have an : (op == 29) = false := by simp; omega
 have d1 : decide ((1 : Int) ≤ op) = true := decide_eq_true (by omega);have d2 : decide (op ≤ (6 : Int)) = true := decide_eq_true (by omega);have d3 : decide ((11 : Int) ≤ op) = false := decide_eq_false (by omega);have d4 : decide (op ≤ (24 : Int)) = true := decide_eq_true (by omega)
 have m1 : ((n : Int) == 0) = false := by simp; omega
 go_enter Tryz.func170, Tryz.ntmps170
 go_wp2
 go_ret
 exact ⟨rfl, HB.out⟩
set_option maxHeartbeats 4000000 in
set_option maxRecDepth 100000 in
theorem join_misstwo (w : World) (op f1 f2 : Int) (f3 : ByteArray) (A : Option Addr) (n c : Nat) (h1 : 11 ≤ op) (h2 : op ≤ 24) (hn : n ≠ 2) : Calls Tryz.prog 170 #[.agg #[.int .i64 op, .int .i64 f1, .int .i64 f2, .string f3], .slice A n c] w fun e w' => e = .returned .nilIface ∧ Below w.heap.size w w' := by
 have HB := q8 (Below.refl w.heap.size w) (.cells #[.int .i64 op, .int .i64 f1, .int .i64 f2, .string f3] 86);have K2 := qL w (.cells #[.int .i64 op, .int .i64 f1, .int .i64 f2, .string f3] 86);generalize ac : w.alloc (.cells #[.int .i64 op, .int .i64 f1, .int .i64 f2, .string f3] 86) = w0 at HB K2;have ae : w0.cell? ⟨w.heap.size, 0, none⟩ = some (.int .i64 op) := (qa K2 0).trans rfl;have af : w0.cell? ⟨w.heap.size, 1, none⟩ = some (.int .i64 f1) := (qa K2 1).trans rfl;have ag : w0.cell? ⟨w.heap.size, 2, none⟩ = some (.int .i64 f2) := (qa K2 2).trans rfl;have ah : w0.cell? ⟨w.heap.size, 3, none⟩ = some (.string f3) := (qa K2 3).trans rfl;have HB := Aside0.mk HB
 have e7 : (op == 7) = false := by simp; omega
 have e8 : (op == 8) = false := by simp; omega
 have e9 : (op == 9) = false := by simp; omega
 have ai : (op == 10) = false := by simp; omega
 have aj : (op == 25) = false := by simp; omega
 have ak : (op == 26) = false := by simp; omega
 have al : (op == 27) = false := by simp; omega
 have am : (op == 28) = false := by simp; omega
 have an : (op == 29) = false := by simp; omega
 have d1 : decide ((1 : Int) ≤ op) = true := decide_eq_true (by omega);have d2 : decide (op ≤ (6 : Int)) = false := decide_eq_false (by omega);have d3 : decide ((11 : Int) ≤ op) = true := decide_eq_true (by omega);have d4 : decide (op ≤ (24 : Int)) = true := decide_eq_true (by omega)
 have m1 : ((n : Int) == 2) = false := by simp; omega
 go_enter Tryz.func170, Tryz.ntmps170
 go_wp2
 go_ret
 exact ⟨rfl, HB.out⟩
set_option maxHeartbeats 4000000 in
set_option maxRecDepth 100000 in
theorem join_call (w : World) (f1 f2 : Int) (f3 : ByteArray) (A : Option Addr) (n c : Nat) (hn : vA f3 n = true) : Calls Tryz.prog 170 #[.agg #[.int .i64 29, .int .i64 f1, .int .i64 f2, .string f3], .slice A n c] w fun e w' => e = .returned (.iface 277 (.agg #[.string f3, .slice A n c])) ∧ Below w.heap.size w w' := by
 have HB := q8 (Below.refl w.heap.size w) (.cells #[.int .i64 29, .int .i64 f1, .int .i64 f2, .string f3] 86);have K2 := qL w (.cells #[.int .i64 29, .int .i64 f1, .int .i64 f2, .string f3] 86);generalize ah : w.alloc (.cells #[.int .i64 29, .int .i64 f1, .int .i64 f2, .string f3] 86) = w0 at HB K2;have ai : w0.cell? ⟨w.heap.size, 0, none⟩ = some (.int .i64 29) := (qa K2 0).trans rfl;have aj : w0.cell? ⟨w.heap.size, 1, none⟩ = some (.int .i64 f1) := (qa K2 1).trans rfl;have ak : w0.cell? ⟨w.heap.size, 2, none⟩ = some (.int .i64 f2) := (qa K2 2).trans rfl;have ac : w0.cell? ⟨w.heap.size, 3, none⟩ = some (.string f3) := (qa K2 3).trans rfl;have HB := Aside0.mk HB;have hs := span_at f3;unfold vA at hn;obtain ⟨⟨lo, hi, ok⟩, hP⟩ : ∃ p, p = xr f3 := ⟨_, rfl⟩;rw [← hP] at hn hs;simp only [Bool.and_eq_true, decide_eq_true_eq] at hn;obtain ⟨⟨rfl, d5⟩, d6⟩ := hn;have d7 : decide (lo ≤ (n : Int)) = true := decide_eq_true d5;have d8 : decide ((n : Int) ≤ hi) = true := decide_eq_true d6;have HS := Aside0.mk hs;clear hs hP
 go_enter Tryz.func170, Tryz.ntmps170
 go_wp2_with (first | (go_at_call 184; go_must (refine (qP.calls 1 f3 lo hi true _ HS.out).mono ?_; rintro e w1 ⟨rfl, hb⟩; have al : w1.cell? ⟨w.heap.size, 3, none⟩ = some (.string f3) := (hb.below.cell (World.block_lt_of_cell? w0 _ ac)).trans ac; have ae := Aside0.mk (qr HB.out hb.below))))
 go_ret
 exact ⟨rfl, ae.out⟩
set_option maxHeartbeats 4000000 in
set_option maxRecDepth 100000 in
theorem join_callmiss0 (w : World) (f1 f2 : Int) (f3 : ByteArray) (A : Option Addr) (n c : Nat) (lo hi : Int) (hs : qP.f 1 f3 = some (lo, hi, false)) : Calls Tryz.prog 170 #[.agg #[.int .i64 29, .int .i64 f1, .int .i64 f2, .string f3], .slice A n c] w fun e w' => e = .returned .nilIface ∧ Below w.heap.size w w' := by
 have HB := q8 (Below.refl w.heap.size w) (.cells #[.int .i64 29, .int .i64 f1, .int .i64 f2, .string f3] 86);have K2 := qL w (.cells #[.int .i64 29, .int .i64 f1, .int .i64 f2, .string f3] 86);generalize af : w.alloc (.cells #[.int .i64 29, .int .i64 f1, .int .i64 f2, .string f3] 86) = w0 at HB K2;have ag : w0.cell? ⟨w.heap.size, 0, none⟩ = some (.int .i64 29) := (qa K2 0).trans rfl;have ah : w0.cell? ⟨w.heap.size, 1, none⟩ = some (.int .i64 f1) := (qa K2 1).trans rfl;have ai : w0.cell? ⟨w.heap.size, 2, none⟩ = some (.int .i64 f2) := (qa K2 2).trans rfl;have ac : w0.cell? ⟨w.heap.size, 3, none⟩ = some (.string f3) := (qa K2 3).trans rfl;have HB := Aside0.mk HB;have HS := Aside0.mk hs;clear hs
 go_enter Tryz.func170, Tryz.ntmps170
 go_wp2_with (first | (go_at_call 184; go_must (refine (qP.calls 1 f3 lo hi false _ HS.out).mono ?_; rintro e w1 ⟨rfl, hb⟩; have aj : w1.cell? ⟨w.heap.size, 3, none⟩ = some (.string f3) := (hb.below.cell (World.block_lt_of_cell? w0 _ ac)).trans ac; have ae := Aside0.mk (qr HB.out hb.below))))
 go_ret
 exact ⟨rfl, ae.out⟩
set_option maxHeartbeats 4000000 in
set_option maxRecDepth 100000 in
theorem join_callmiss1 (w : World) (f1 f2 : Int) (f3 : ByteArray) (A : Option Addr) (n c : Nat) (lo hi : Int) (hs : qP.f 1 f3 = some (lo, hi, true)) (hl : (n : Int) < lo) : Calls Tryz.prog 170 #[.agg #[.int .i64 29, .int .i64 f1, .int .i64 f2, .string f3], .slice A n c] w fun e w' => e = .returned .nilIface ∧ Below w.heap.size w w' := by
 have HB := q8 (Below.refl w.heap.size w) (.cells #[.int .i64 29, .int .i64 f1, .int .i64 f2, .string f3] 86);have K2 := qL w (.cells #[.int .i64 29, .int .i64 f1, .int .i64 f2, .string f3] 86);generalize af : w.alloc (.cells #[.int .i64 29, .int .i64 f1, .int .i64 f2, .string f3] 86) = w0 at HB K2;have ag : w0.cell? ⟨w.heap.size, 0, none⟩ = some (.int .i64 29) := (qa K2 0).trans rfl;have ah : w0.cell? ⟨w.heap.size, 1, none⟩ = some (.int .i64 f1) := (qa K2 1).trans rfl;have ai : w0.cell? ⟨w.heap.size, 2, none⟩ = some (.int .i64 f2) := (qa K2 2).trans rfl;have ac : w0.cell? ⟨w.heap.size, 3, none⟩ = some (.string f3) := (qa K2 3).trans rfl;have HB := Aside0.mk HB;have d7 : decide (lo ≤ (n : Int)) = false := decide_eq_false (by omega);have HS := Aside0.mk hs;clear hs
 go_enter Tryz.func170, Tryz.ntmps170
 go_wp2_with (first | (go_at_call 184; go_must (refine (qP.calls 1 f3 lo hi true _ HS.out).mono ?_; rintro e w1 ⟨rfl, hb⟩; have aj : w1.cell? ⟨w.heap.size, 3, none⟩ = some (.string f3) := (hb.below.cell (World.block_lt_of_cell? w0 _ ac)).trans ac; have ae := Aside0.mk (qr HB.out hb.below))))
 go_ret
 exact ⟨rfl, ae.out⟩
set_option maxHeartbeats 4000000 in
set_option maxRecDepth 100000 in
theorem join_callmiss2 (w : World) (f1 f2 : Int) (f3 : ByteArray) (A : Option Addr) (n c : Nat) (lo hi : Int) (hs : qP.f 1 f3 = some (lo, hi, true)) (hl : lo ≤ (n : Int)) (hh : hi < (n : Int)) : Calls Tryz.prog 170 #[.agg #[.int .i64 29, .int .i64 f1, .int .i64 f2, .string f3], .slice A n c] w fun e w' => e = .returned .nilIface ∧ Below w.heap.size w w' := by
 have HB := q8 (Below.refl w.heap.size w) (.cells #[.int .i64 29, .int .i64 f1, .int .i64 f2, .string f3] 86);have K2 := qL w (.cells #[.int .i64 29, .int .i64 f1, .int .i64 f2, .string f3] 86);generalize af : w.alloc (.cells #[.int .i64 29, .int .i64 f1, .int .i64 f2, .string f3] 86) = w0 at HB K2;have ag : w0.cell? ⟨w.heap.size, 0, none⟩ = some (.int .i64 29) := (qa K2 0).trans rfl;have ah : w0.cell? ⟨w.heap.size, 1, none⟩ = some (.int .i64 f1) := (qa K2 1).trans rfl;have ai : w0.cell? ⟨w.heap.size, 2, none⟩ = some (.int .i64 f2) := (qa K2 2).trans rfl;have ac : w0.cell? ⟨w.heap.size, 3, none⟩ = some (.string f3) := (qa K2 3).trans rfl;have HB := Aside0.mk HB;have d7 : decide (lo ≤ (n : Int)) = true := decide_eq_true (by omega);have d8 : decide ((n : Int) ≤ hi) = false := decide_eq_false (by omega);have HS := Aside0.mk hs;clear hs
 go_enter Tryz.func170, Tryz.ntmps170
 go_wp2_with (first | (go_at_call 184; go_must (refine (qP.calls 1 f3 lo hi true _ HS.out).mono ?_; rintro e w1 ⟨rfl, hb⟩; have aj : w1.cell? ⟨w.heap.size, 3, none⟩ = some (.string f3) := (hb.below.cell (World.block_lt_of_cell? w0 _ ac)).trans ac; have ae := Aside0.mk (qr HB.out hb.below))))
 go_ret
 exact ⟨rfl, ae.out⟩
set_option maxHeartbeats 4000000 in
set_option maxRecDepth 100000 in
theorem join_neg (w : World) (f1 f2 : Int) (f3 : ByteArray) (ad : Addr) (c : Nat) (T2 : Nat) (u2 : Value) (h0 : w.cell? (ad.add 0) = some (.iface T2 u2)) : Calls Tryz.prog 170 #[.agg #[.int .i64 7, .int .i64 f1, .int .i64 f2, .string f3], .slice (some ad) 1 c] w fun e w' => e = .returned (.iface 266 (.agg #[.int .i64 7, .iface T2 u2])) ∧ Below w.heap.size w w' := by
 have HB := q8 (Below.refl w.heap.size w) (.cells #[.int .i64 7, .int .i64 f1, .int .i64 f2, .string f3] 86);have K2 := qL w (.cells #[.int .i64 7, .int .i64 f1, .int .i64 f2, .string f3] 86);generalize af : w.alloc (.cells #[.int .i64 7, .int .i64 f1, .int .i64 f2, .string f3] 86) = w0 at HB K2;have ag : w0.cell? ⟨w.heap.size, 0, none⟩ = some (.int .i64 7) := (qa K2 0).trans rfl;have ah : w0.cell? ⟨w.heap.size, 1, none⟩ = some (.int .i64 f1) := (qa K2 1).trans rfl;have ai : w0.cell? ⟨w.heap.size, 2, none⟩ = some (.int .i64 f2) := (qa K2 2).trans rfl;have aj : w0.cell? ⟨w.heap.size, 3, none⟩ = some (.string f3) := (qa K2 3).trans rfl;have HB := Aside0.mk HB;have ce : w0.cell? ad = some (.iface T2 u2) := zy ad ▸ ((HB.out.cell (World.block_lt_of_cell? w _ h0)).trans h0)
 go_enter Tryz.func170, Tryz.ntmps170
 go_wp2
 go_ret
 exact ⟨rfl, HB.out⟩
set_option maxHeartbeats 4000000 in
set_option maxRecDepth 100000 in
theorem join_isnull (w : World) (f1 f2 : Int) (f3 : ByteArray) (ad : Addr) (c : Nat) (T2 : Nat) (u2 : Value) (h0 : w.cell? (ad.add 0) = some (.iface T2 u2)) : Calls Tryz.prog 170 #[.agg #[.int .i64 9, .int .i64 f1, .int .i64 f2, .string f3], .slice (some ad) 1 c] w fun e w' => e = .returned (.iface 268 (.agg #[.string (str (wordsL 9)), .iface T2 u2])) ∧ Below w.heap.size w w' := by
 have HB := q8 (Below.refl w.heap.size w) (.cells #[.int .i64 9, .int .i64 f1, .int .i64 f2, .string f3] 86);have K2 := qL w (.cells #[.int .i64 9, .int .i64 f1, .int .i64 f2, .string f3] 86);generalize af : w.alloc (.cells #[.int .i64 9, .int .i64 f1, .int .i64 f2, .string f3] 86) = w0 at HB K2;have ag : w0.cell? ⟨w.heap.size, 0, none⟩ = some (.int .i64 9) := (qa K2 0).trans rfl;have ah : w0.cell? ⟨w.heap.size, 1, none⟩ = some (.int .i64 f1) := (qa K2 1).trans rfl;have ai : w0.cell? ⟨w.heap.size, 2, none⟩ = some (.int .i64 f2) := (qa K2 2).trans rfl;have aj : w0.cell? ⟨w.heap.size, 3, none⟩ = some (.string f3) := (qa K2 3).trans rfl;have HB := Aside0.mk HB;have ce : w0.cell? ad = some (.iface T2 u2) := zy ad ▸ ((HB.out.cell (World.block_lt_of_cell? w _ h0)).trans h0)
 go_enter Tryz.func170, Tryz.ntmps170
 go_wp2
 go_ret
 exact ⟨rfl, HB.out⟩
set_option maxHeartbeats 4000000 in
set_option maxRecDepth 100000 in
theorem join_notnull (w : World) (f1 f2 : Int) (f3 : ByteArray) (ad : Addr) (c : Nat) (T2 : Nat) (u2 : Value) (h0 : w.cell? (ad.add 0) = some (.iface T2 u2)) : Calls Tryz.prog 170 #[.agg #[.int .i64 10, .int .i64 f1, .int .i64 f2, .string f3], .slice (some ad) 1 c] w fun e w' => e = .returned (.iface 268 (.agg #[.string (str (wordsL 10)), .iface T2 u2])) ∧ Below w.heap.size w w' := by
 have HB := q8 (Below.refl w.heap.size w) (.cells #[.int .i64 10, .int .i64 f1, .int .i64 f2, .string f3] 86);have K2 := qL w (.cells #[.int .i64 10, .int .i64 f1, .int .i64 f2, .string f3] 86);generalize af : w.alloc (.cells #[.int .i64 10, .int .i64 f1, .int .i64 f2, .string f3] 86) = w0 at HB K2;have ag : w0.cell? ⟨w.heap.size, 0, none⟩ = some (.int .i64 10) := (qa K2 0).trans rfl;have ah : w0.cell? ⟨w.heap.size, 1, none⟩ = some (.int .i64 f1) := (qa K2 1).trans rfl;have ai : w0.cell? ⟨w.heap.size, 2, none⟩ = some (.int .i64 f2) := (qa K2 2).trans rfl;have aj : w0.cell? ⟨w.heap.size, 3, none⟩ = some (.string f3) := (qa K2 3).trans rfl;have HB := Aside0.mk HB;have ce : w0.cell? ad = some (.iface T2 u2) := zy ad ▸ ((HB.out.cell (World.block_lt_of_cell? w _ h0)).trans h0)
 go_enter Tryz.func170, Tryz.ntmps170
 go_wp2
 go_ret
 exact ⟨rfl, HB.out⟩
set_option maxHeartbeats 4000000 in
set_option maxRecDepth 100000 in
theorem join_like (w : World) (f1 f2 : Int) (f3 : ByteArray) (A : Option Addr) (c : Nat) : Calls Tryz.prog 170 #[.agg #[.int .i64 25, .int .i64 f1, .int .i64 f2, .string f3], .slice A 2 c] w fun e w' => e = .returned (.iface 263 (.agg #[.int .i64 25, .bool false, .slice A 2 c])) ∧ Below w.heap.size w w' := by
 have HB := q8 (Below.refl w.heap.size w) (.cells #[.int .i64 25, .int .i64 f1, .int .i64 f2, .string f3] 86);have K2 := qL w (.cells #[.int .i64 25, .int .i64 f1, .int .i64 f2, .string f3] 86);generalize ac : w.alloc (.cells #[.int .i64 25, .int .i64 f1, .int .i64 f2, .string f3] 86) = w0 at HB K2;have ae : w0.cell? ⟨w.heap.size, 0, none⟩ = some (.int .i64 25) := (qa K2 0).trans rfl;have af : w0.cell? ⟨w.heap.size, 1, none⟩ = some (.int .i64 f1) := (qa K2 1).trans rfl;have ag : w0.cell? ⟨w.heap.size, 2, none⟩ = some (.int .i64 f2) := (qa K2 2).trans rfl;have ah : w0.cell? ⟨w.heap.size, 3, none⟩ = some (.string f3) := (qa K2 3).trans rfl;have HB := Aside0.mk HB
 go_enter Tryz.func170, Tryz.ntmps170
 go_wp2
 go_ret
 exact ⟨rfl, HB.out⟩
set_option maxHeartbeats 4000000 in
set_option maxRecDepth 100000 in
theorem join_between (w : World) (f1 f2 : Int) (f3 : ByteArray) (A : Option Addr) (c : Nat) : Calls Tryz.prog 170 #[.agg #[.int .i64 26, .int .i64 f1, .int .i64 f2, .string f3], .slice A 3 c] w fun e w' => e = .returned (.iface 263 (.agg #[.int .i64 26, .bool false, .slice A 3 c])) ∧ Below w.heap.size w w' := by
 have HB := q8 (Below.refl w.heap.size w) (.cells #[.int .i64 26, .int .i64 f1, .int .i64 f2, .string f3] 86);have K2 := qL w (.cells #[.int .i64 26, .int .i64 f1, .int .i64 f2, .string f3] 86);generalize ac : w.alloc (.cells #[.int .i64 26, .int .i64 f1, .int .i64 f2, .string f3] 86) = w0 at HB K2;have ae : w0.cell? ⟨w.heap.size, 0, none⟩ = some (.int .i64 26) := (qa K2 0).trans rfl;have af : w0.cell? ⟨w.heap.size, 1, none⟩ = some (.int .i64 f1) := (qa K2 1).trans rfl;have ag : w0.cell? ⟨w.heap.size, 2, none⟩ = some (.int .i64 f2) := (qa K2 2).trans rfl;have ah : w0.cell? ⟨w.heap.size, 3, none⟩ = some (.string f3) := (qa K2 3).trans rfl;have HB := Aside0.mk HB
 go_enter Tryz.func170, Tryz.ntmps170
 go_wp2
 go_ret
 exact ⟨rfl, HB.out⟩
set_option maxHeartbeats 4000000 in
set_option maxRecDepth 100000 in
theorem join_in (w : World) (f1 f2 : Int) (f3 : ByteArray) (A : Option Addr) (n c : Nat) (hn : 2 ≤ n ∧ n ≤ 17) : Calls Tryz.prog 170 #[.agg #[.int .i64 27, .int .i64 f1, .int .i64 f2, .string f3], .slice A n c] w fun e w' => e = .returned (.iface 263 (.agg #[.int .i64 27, .bool false, .slice A n c])) ∧ Below w.heap.size w w' := by
 have HB := q8 (Below.refl w.heap.size w) (.cells #[.int .i64 27, .int .i64 f1, .int .i64 f2, .string f3] 86);have K2 := qL w (.cells #[.int .i64 27, .int .i64 f1, .int .i64 f2, .string f3] 86);generalize ac : w.alloc (.cells #[.int .i64 27, .int .i64 f1, .int .i64 f2, .string f3] 86) = w0 at HB K2;have ae : w0.cell? ⟨w.heap.size, 0, none⟩ = some (.int .i64 27) := (qa K2 0).trans rfl;have af : w0.cell? ⟨w.heap.size, 1, none⟩ = some (.int .i64 f1) := (qa K2 1).trans rfl;have ag : w0.cell? ⟨w.heap.size, 2, none⟩ = some (.int .i64 f2) := (qa K2 2).trans rfl;have ah : w0.cell? ⟨w.heap.size, 3, none⟩ = some (.string f3) := (qa K2 3).trans rfl;have HB := Aside0.mk HB;have m1 : decide ((2 : Int) ≤ (n : Int)) = true := decide_eq_true (by omega);have m2 : decide ((n : Int) ≤ (17 : Int)) = true := decide_eq_true (by omega)
 go_enter Tryz.func170, Tryz.ntmps170
 go_wp2
 go_ret
 exact ⟨rfl, HB.out⟩
set_option maxHeartbeats 4000000 in
set_option maxRecDepth 100000 in
theorem join_case (w : World) (f1 f2 : Int) (f3 : ByteArray) (A : Option Addr) (n c : Nat) (hn : 3 ≤ n ∧ n ≤ 33 ∧ n % 2 = 1) : Calls Tryz.prog 170 #[.agg #[.int .i64 28, .int .i64 f1, .int .i64 f2, .string f3], .slice A n c] w fun e w' => e = .returned (.iface 273 (.agg #[.slice A n c])) ∧ Below w.heap.size w w' := by
 have HB := q8 (Below.refl w.heap.size w) (.cells #[.int .i64 28, .int .i64 f1, .int .i64 f2, .string f3] 86);have K2 := qL w (.cells #[.int .i64 28, .int .i64 f1, .int .i64 f2, .string f3] 86);generalize ac : w.alloc (.cells #[.int .i64 28, .int .i64 f1, .int .i64 f2, .string f3] 86) = w0 at HB K2;have ae : w0.cell? ⟨w.heap.size, 0, none⟩ = some (.int .i64 28) := (qa K2 0).trans rfl;have af : w0.cell? ⟨w.heap.size, 1, none⟩ = some (.int .i64 f1) := (qa K2 1).trans rfl;have ag : w0.cell? ⟨w.heap.size, 2, none⟩ = some (.int .i64 f2) := (qa K2 2).trans rfl;have ah : w0.cell? ⟨w.heap.size, 3, none⟩ = some (.string f3) := (qa K2 3).trans rfl;have HB := Aside0.mk HB;have m1 : decide ((3 : Int) ≤ (n : Int)) = true := decide_eq_true (by omega);have m2 : decide ((n : Int) ≤ (33 : Int)) = true := decide_eq_true (by omega)
 have m3 : Int.tmod (n : Int) 2 = 1 := by rw [Int.tmod_eq_emod_of_nonneg (by omega)]; omega
 go_enter Tryz.func170, Tryz.ntmps170
 go_wp2
 go_ret
 exact ⟨rfl, HB.out⟩
set_option maxHeartbeats 4000000 in
set_option maxRecDepth 100000 in
theorem join_leaf (w : World) (f1 f2 : Int) (f3 : ByteArray) (op : Int) (A : Option Addr) (c : Nat) (h1 : 1 ≤ op) (h2 : op ≤ 6) (ac : -9223372036854775808 ≤ f2 ∧ f2 ≤ 9223372036854775807) (ht : f3.size ≤ 1000000000) (h6 : op = 6 → 0 < f3.size) (hG : GT w) : Calls Tryz.prog 170 #[.agg #[.int .i64 op, .int .i64 f1, .int .i64 f2, .string f3], .slice A 0 c] w fun e w' => e = .returned (.iface 260 (.string (str (leafL op f2 f3.data.toList)))) ∧ Below w.heap.size w w' := by
 have HB := q8 (Below.refl w.heap.size w) (.cells #[.int .i64 op, .int .i64 f1, .int .i64 f2, .string f3] 86);have K2 := qL w (.cells #[.int .i64 op, .int .i64 f1, .int .i64 f2, .string f3] 86);generalize ah : w.alloc (.cells #[.int .i64 op, .int .i64 f1, .int .i64 f2, .string f3] 86) = w0 at HB K2;have ai : w0.cell? ⟨w.heap.size, 0, none⟩ = some (.int .i64 op) := (qa K2 0).trans rfl;have aj : w0.cell? ⟨w.heap.size, 1, none⟩ = some (.int .i64 f1) := (qa K2 1).trans rfl;have ak : w0.cell? ⟨w.heap.size, 2, none⟩ = some (.int .i64 f2) := (qa K2 2).trans rfl;have al : w0.cell? ⟨w.heap.size, 3, none⟩ = some (.string f3) := (qa K2 3).trans rfl;have HB := Aside0.mk HB
 have e7 : (op == 7) = false := by simp; omega
 have e8 : (op == 8) = false := by simp; omega
 have e9 : (op == 9) = false := by simp; omega
 have am : (op == 10) = false := by simp; omega
 have an : (op == 25) = false := by simp; omega
 have ao : (op == 26) = false := by simp; omega
 have ap : (op == 27) = false := by simp; omega
 have au : (op == 28) = false := by simp; omega
 have av : (op == 29) = false := by simp; omega
 have d1 : decide ((1 : Int) ≤ op) = true := decide_eq_true (by omega);have d2 : decide (op ≤ (6 : Int)) = true := decide_eq_true (by omega);have d3 : decide ((11 : Int) ≤ op) = false := decide_eq_false (by omega);have d4 : decide (op ≤ (24 : Int)) = true := decide_eq_true (by omega);have HG := Aside0.mk (hG.below HB.out);have HH := Aside0.mk (And.intro ac (And.intro ht h6));have HO := Aside0.mk (And.intro h1 h2);clear hG ac ht h6
 go_enter Tryz.func170, Tryz.ntmps170
 go_wp2_with (first | (go_at_call 182; go_must (refine (leaf_calls op f1 f2 f3 _ HO.out HH.out.1 HH.out.2.1 HH.out.2.2 HG.out).mono ?_; rintro e w1 ⟨rfl, hb⟩; have af := Aside0.mk (qr HB.out hb))))
 go_ret
 exact ⟨rfl, af.out⟩
set_option maxHeartbeats 4000000 in
set_option maxRecDepth 100000 in
theorem join_sugar (w : World) (f1 f2 : Int) (f3 : ByteArray) (ad : Addr) (c : Nat) (o : Int) (A : Option Addr) (n2 c2 : Nat) (h0 : w.cell? (ad.add 0) = some (.iface 263 (.agg #[.int .i64 o, .bool false, .slice A n2 c2]))) : Calls Tryz.prog 170 #[.agg #[.int .i64 8, .int .i64 f1, .int .i64 f2, .string f3], .slice (some ad) 1 c] w fun e w' => e = .returned (.iface 263 (.agg #[.int .i64 o, .bool true, .slice A n2 c2])) ∧ Below w.heap.size w w' := by
 have HB := q8 (Below.refl w.heap.size w) (.cells #[.int .i64 8, .int .i64 f1, .int .i64 f2, .string f3] 86);have K2 := qL w (.cells #[.int .i64 8, .int .i64 f1, .int .i64 f2, .string f3] 86);generalize ah : w.alloc (.cells #[.int .i64 8, .int .i64 f1, .int .i64 f2, .string f3] 86) = w0 at HB K2;have af : w0.cell? ⟨w.heap.size, 0, none⟩ = some (.int .i64 8) := (qa K2 0).trans rfl;have ai : w0.cell? ⟨w.heap.size, 1, none⟩ = some (.int .i64 f1) := (qa K2 1).trans rfl;have aj : w0.cell? ⟨w.heap.size, 2, none⟩ = some (.int .i64 f2) := (qa K2 2).trans rfl;have ak : w0.cell? ⟨w.heap.size, 3, none⟩ = some (.string f3) := (qa K2 3).trans rfl;have HB := Aside0.mk HB;have ce : w0.cell? ad = some (.iface 263 (.agg #[.int .i64 o, .bool false, .slice A n2 c2])) := zy ad ▸ ((HB.out.cell (World.block_lt_of_cell? w _ h0)).trans h0);have q := ta_matched (.agg #[.int .i64 o, .bool false, .slice A n2 c2]);have hltA : ad.block < w0.heap.size := World.block_lt_of_cell? w0 _ ce;have ag : w.heap.size < w0.heap.size := World.block_lt_of_cell? w0 _ af;have al := Aside0.mk (qr HB.out (q8 (Below.refl w0.heap.size w0) (.cells #[.int .i64 o, .bool false, .slice A n2 c2] 263)))
 go_enter Tryz.func170, Tryz.ntmps170
 go_wp2
 go_ret
 exact ⟨rfl, (qr HB.out (q8 (Below.refl _ _) _))⟩
set_option maxHeartbeats 4000000 in
set_option maxRecDepth 100000 in
theorem join_not1 (w : World) (f1 f2 : Int) (f3 : ByteArray) (ad : Addr) (c : Nat) (o : Int) (A : Option Addr) (n2 c2 : Nat) (h0 : w.cell? (ad.add 0) = some (.iface 263 (.agg #[.int .i64 o, .bool true, .slice A n2 c2]))) : Calls Tryz.prog 170 #[.agg #[.int .i64 8, .int .i64 f1, .int .i64 f2, .string f3], .slice (some ad) 1 c] w fun e w' => e = .returned (.iface 266 (.agg #[.int .i64 8, .iface 263 (.agg #[.int .i64 o, .bool true, .slice A n2 c2])])) ∧ Below w.heap.size w w' := by
 have HB := q8 (Below.refl w.heap.size w) (.cells #[.int .i64 8, .int .i64 f1, .int .i64 f2, .string f3] 86);have K2 := qL w (.cells #[.int .i64 8, .int .i64 f1, .int .i64 f2, .string f3] 86);generalize ai : w.alloc (.cells #[.int .i64 8, .int .i64 f1, .int .i64 f2, .string f3] 86) = w0 at HB K2;have af : w0.cell? ⟨w.heap.size, 0, none⟩ = some (.int .i64 8) := (qa K2 0).trans rfl;have aj : w0.cell? ⟨w.heap.size, 1, none⟩ = some (.int .i64 f1) := (qa K2 1).trans rfl;have ak : w0.cell? ⟨w.heap.size, 2, none⟩ = some (.int .i64 f2) := (qa K2 2).trans rfl;have al : w0.cell? ⟨w.heap.size, 3, none⟩ = some (.string f3) := (qa K2 3).trans rfl;have HB := Aside0.mk HB;have ce : w0.cell? ad = some (.iface 263 (.agg #[.int .i64 o, .bool true, .slice A n2 c2])) := zy ad ▸ ((HB.out.cell (World.block_lt_of_cell? w _ h0)).trans h0);have q := ta_matched (.agg #[.int .i64 o, .bool true, .slice A n2 c2]);have hltA : ad.block < w0.heap.size := World.block_lt_of_cell? w0 _ ce;have ah : w.heap.size < w0.heap.size := World.block_lt_of_cell? w0 _ af;have ag := Aside0.mk (qr HB.out (q8 (Below.refl w0.heap.size w0) (.cells #[.int .i64 o, .bool true, .slice A n2 c2] 263)))
 go_enter Tryz.func170, Tryz.ntmps170
 go_wp2
 go_ret
 exact ⟨rfl, ag.out⟩
set_option maxHeartbeats 4000000 in
set_option maxRecDepth 100000 in
theorem join_not2 (w : World) (f1 f2 : Int) (f3 : ByteArray) (ad : Addr) (c : Nat) (T2 : Nat) (u2 : Value) (h0 : w.cell? (ad.add 0) = some (.iface T2 u2)) (hq : ∀ w, (Instr.typeAssert (.iface T2 u2) 227 263 true).run Tryz.prog w = .ok (.tuple #[.agg #[.int .i64 0, .bool false, .slice none 0 0], .bool false]) w) : Calls Tryz.prog 170 #[.agg #[.int .i64 8, .int .i64 f1, .int .i64 f2, .string f3], .slice (some ad) 1 c] w fun e w' => e = .returned (.iface 266 (.agg #[.int .i64 8, .iface T2 u2])) ∧ Below w.heap.size w w' := by
 have HB := q8 (Below.refl w.heap.size w) (.cells #[.int .i64 8, .int .i64 f1, .int .i64 f2, .string f3] 86);have K2 := qL w (.cells #[.int .i64 8, .int .i64 f1, .int .i64 f2, .string f3] 86);generalize ai : w.alloc (.cells #[.int .i64 8, .int .i64 f1, .int .i64 f2, .string f3] 86) = w0 at HB K2;have af : w0.cell? ⟨w.heap.size, 0, none⟩ = some (.int .i64 8) := (qa K2 0).trans rfl;have aj : w0.cell? ⟨w.heap.size, 1, none⟩ = some (.int .i64 f1) := (qa K2 1).trans rfl;have ak : w0.cell? ⟨w.heap.size, 2, none⟩ = some (.int .i64 f2) := (qa K2 2).trans rfl;have al : w0.cell? ⟨w.heap.size, 3, none⟩ = some (.string f3) := (qa K2 3).trans rfl;have HB := Aside0.mk HB;have ce : w0.cell? ad = some (.iface T2 u2) := zy ad ▸ ((HB.out.cell (World.block_lt_of_cell? w _ h0)).trans h0);have hltA : ad.block < w0.heap.size := World.block_lt_of_cell? w0 _ ce;have ah : w.heap.size < w0.heap.size := World.block_lt_of_cell? w0 _ af;have ag := Aside0.mk (qr HB.out (q8 (Below.refl w0.heap.size w0) (.cells #[.int .i64 0, .bool false, .slice none 0 0] 263)))
 go_enter Tryz.func170, Tryz.ntmps170
 go_wp2
 go_ret
 exact ⟨rfl, ag.out⟩
set_option maxHeartbeats 4000000 in
set_option maxRecDepth 100000 in
theorem join_two (w : World) (f1 f2 : Int) (f3 : ByteArray) (op : Int) (h8 : 11 ≤ op) (h9 : op ≤ 24) (ad : Addr) (c : Nat) (T2 : Nat) (u2 : Value) (T3 : Nat) (u3 : Value) (h0 : w.cell? (ad.add 0) = some (.iface T2 u2)) (h1 : w.cell? (ad.add 1) = some (.iface T3 u3)) : Calls Tryz.prog 170 #[.agg #[.int .i64 op, .int .i64 f1, .int .i64 f2, .string f3], .slice (some ad) 2 c] w fun e w' => e = .returned (.iface 271 (.agg #[.string (str (vf op)), .int .i64 (lvlI op), .iface T2 u2, .iface T3 u3])) ∧ Below w.heap.size w w' := by
 have HB := q8 (Below.refl w.heap.size w) (.cells #[.int .i64 op, .int .i64 f1, .int .i64 f2, .string f3] 86);have K2 := qL w (.cells #[.int .i64 op, .int .i64 f1, .int .i64 f2, .string f3] 86);generalize ak : w.alloc (.cells #[.int .i64 op, .int .i64 f1, .int .i64 f2, .string f3] 86) = w0 at HB K2;have al : w0.cell? ⟨w.heap.size, 0, none⟩ = some (.int .i64 op) := (qa K2 0).trans rfl;have am : w0.cell? ⟨w.heap.size, 1, none⟩ = some (.int .i64 f1) := (qa K2 1).trans rfl;have an : w0.cell? ⟨w.heap.size, 2, none⟩ = some (.int .i64 f2) := (qa K2 2).trans rfl;have ao : w0.cell? ⟨w.heap.size, 3, none⟩ = some (.string f3) := (qa K2 3).trans rfl;have HB := Aside0.mk HB;have ce : w0.cell? ad = some (.iface T2 u2) := zy ad ▸ ((HB.out.cell (World.block_lt_of_cell? w _ h0)).trans h0);have ac : w0.cell? ⟨ad.block, ad.off + 1, none⟩ = some (.iface T3 u3) := xx ad 1 (by decide) ▸ ((HB.out.cell (World.block_lt_of_cell? w _ h1)).trans h1)
 have e7 : (op == 7) = false := by simp; omega
 have e8 : (op == 8) = false := by simp; omega
 have e9 : (op == 9) = false := by simp; omega
 have ap : (op == 10) = false := by simp; omega
 have au : (op == 25) = false := by simp; omega
 have av : (op == 26) = false := by simp; omega
 have aw : (op == 27) = false := by simp; omega
 have ax : (op == 28) = false := by simp; omega
 have ay : (op == 29) = false := by simp; omega
 have d1 : decide ((1 : Int) ≤ op) = true := decide_eq_true (by omega);have d2 : decide (op ≤ (6 : Int)) = false := decide_eq_false (by omega);have d3 : decide ((11 : Int) ≤ op) = true := decide_eq_true (by omega);have d4 : decide (op ≤ (24 : Int)) = true := decide_eq_true (by omega);have HD := Aside0.mk (dyad_at op h8 h9)
 go_enter Tryz.func170, Tryz.ntmps170
 go_upto_region 19 with (first | (go_at_call 183; go_must (refine (z7.calls 40 op (str (vf op)) (lvlI op) _ HD.out).mono ?_; rintro e w1 ⟨rfl, hb⟩; have az := (hb.cell (World.block_lt_of_cell? w0 _ ce)).trans ce; have a0 := (hb.cell (World.block_lt_of_cell? w0 _ ac)).trans ac; have ah := Aside0.mk (qr HB.out hb))))
 go_region
 go_wp2
 go_ret
 exact ⟨rfl, (qb ah.out)⟩
inductive MatForm (v : Value) (op : Int) : Prop
 | no (o : Int) (A : Option Addr) (n c : Nat) (hv : v = .iface 263 (.agg #[.int .i64 o, .bool false, .slice A n c])) (h : zI op = true)
 | yes (o : Int) (A : Option Addr) (n c : Nat) (hv : v = .iface 263 (.agg #[.int .i64 o, .bool true, .slice A n c])) (h : zI op = false)
 | other (T : Nat) (u : Value) (hv : v = .iface T u) (hq : ∀ w, (Instr.typeAssert (.iface T u) 227 263 true).run Tryz.prog w = .ok (.tuple #[.agg #[.int .i64 0, .bool false, .slice none 0 0], .bool false]) w) (h : zI op = false)
theorem mat_form {w : World} {v : Value} {t : Tr} (h : IsT w v t) : MatForm v t.f0.f0 := by
 cases h with
 | leaf x h1 h6 => exact .other _ _ rfl (ta_atom_matched _) ((xB _).2 (by show ¬ (25 ≤ x.f0 ∧ x.f0 ≤ 27); omega))
 | ahead x t v hx h => exact .other _ _ rfl (ta_ahead_matched _) ((xB _).2 (by show ¬ (25 ≤ x.f0 ∧ x.f0 ≤ 27); omega))
 | sugar x t o sl hx ht h =>
  cases h with
  | matched x2 ks vs A c aa hn hc hl hr h => exact .yes _ _ _ _ rfl ((xB _).2 (by show ¬ (25 ≤ x.f0 ∧ x.f0 ≤ 27); omega))
 | null x t v hx h => exact .other _ _ rfl (ta_nullness_matched _) ((xB _).2 (by show ¬ (25 ≤ x.f0 ∧ x.f0 ≤ 27); omega))
 | binary x a b va vb h1 h2 ha hb => exact .other _ _ rfl (ta_binary_matched _) ((xB _).2 (by show ¬ (25 ≤ x.f0 ∧ x.f0 ≤ 27); omega))
 | matched x ks vs A c hx hn hc hl hr h => exact .no _ _ _ _ rfl hx
 | choice x ks vs A c hx hn hc hl hr h => exact .other _ _ rfl (vz _) ((xB _).2 (by show ¬ (25 ≤ x.f0 ∧ x.f0 ≤ 27); omega))
 | called x ks vs A c hx hn hc hl hr h => exact .other _ _ rfl (vy _) ((xB _).2 (by show ¬ (25 ≤ x.f0 ∧ x.f0 ≤ 27); omega))
def JoinOut (W w : World) (x : Nd) (ks : List Tr) (e : Ending) (w' : World) : Prop := Below w.heap.size w w' ∧ ((qY x.f0 x.f3 ks.length = true ∧ ∃ v, e = .returned v ∧ IsT W v ⟨x, ks⟩) ∨ (qY x.f0 x.f3 ks.length = false ∧ e = .returned .nilIface))
theorem xN {W w : World} {x : Nd} {ks : List Tr} {args : Array Value} {v : Value} (h : Calls Tryz.prog 170 args w fun e w' => e = .returned v ∧ Below w.heap.size w w') (ht : qY x.f0 x.f3 ks.length = true) (hI : IsT W v ⟨x, ks⟩) : Calls Tryz.prog 170 args w (JoinOut W w x ks) :=
 h.mono (by rintro e w' ⟨rfl, hb⟩; exact ⟨hb, .inl ⟨ht, v, rfl, hI⟩⟩)
theorem zT {W w : World} {x : Nd} {ks : List Tr} {args : Array Value} (h : Calls Tryz.prog 170 args w fun e w' => e = .returned .nilIface ∧ Below w.heap.size w w') (ht : qY x.f0 x.f3 ks.length = false) : Calls Tryz.prog 170 args w (JoinOut W w x ks) :=
 h.mono (by rintro e w' ⟨rfl, hb⟩; exact ⟨hb, .inr ⟨ht, rfl⟩⟩)
theorem list_one {α : Type} (l : List α) (h : l.length = 1) : ∃ a, l = [a] := by
 match l, h with
 | [a], _ => exact ⟨a, rfl⟩
theorem list_two {α : Type} (l : List α) (h : l.length = 2) : ∃ a b, l = [a, b] := by
 match l, h with
 | [a, b], _ => exact ⟨a, b, rfl⟩
theorem join_calls (x : Nd) (W w : World) (hsub : ∀ a u, W.cell? a = some u → w.cell? a = some u) (A : Option Addr) (ks : List Tr) (vs : List Value) (c : Nat) (hl : vs.length = ks.length) (hr : ks ≠ [] → RowV W A vs) (hI : ∀ (i : Nat) v t, vs[i]? = some v → ks[i]? = some t → IsT W v t) (hc : ks.length ≤ c) (hn : ks.length ≤ 1000000000)
 (ah : -9223372036854775808 ≤ x.f2 ∧ x.f2 ≤ 9223372036854775807) (ht : x.f3.size ≤ 1000000000) (h6 : x.f0 = 6 → 0 < x.f3.size) (hG : GT w) :
 Calls Tryz.prog 170 #[ndv x, .slice A ks.length c] w (JoinOut W w x ks) := by
 have hne : 1 ≤ ks.length → ks ≠ [] := fun h h0 => by rw [h0] at h; simp at h
 obtain ⟨op, f1, f2, f3⟩ := x
 dsimp only at ah ht h6
 by_cases a1 : op < 1 ∨ 29 < op
 · refine zT (join_far _ w A _ c a1) ?_
   unfold qY
   dsimp only
   rw [if_neg (by omega), if_neg (by omega), if_neg (by omega), if_neg (by omega), if_neg (by omega), if_neg (by omega), if_neg (by omega)]
 by_cases a2 : op ≤ 6
 · have hT : qY op f3 ks.length = decide (ks.length = 0) := by unfold qY; rw [if_pos (by omega)]
   by_cases hk : ks.length = 0
   · obtain rfl := List.length_eq_zero_iff.1 hk
     exact xN (join_leaf w f1 f2 f3 op A c (by omega) a2 ah ht h6 hG) (by show qY op f3 _ = true; rw [hT]; rfl) (.leaf ⟨op, f1, f2, f3⟩ (by show 1 ≤ op; omega) a2)
   · exact zT (join_missleaf w op f1 f2 f3 A _ c (by omega) a2 hk) (by show qY op f3 _ = false; rw [hT]; simp [hk])
 by_cases a3 : op ≤ 10
 · have hT : qY op f3 ks.length = decide (ks.length = 1) := by unfold qY; rw [if_neg (by omega), if_pos (by omega)]
   by_cases hk : ks.length = 1
   · obtain ⟨ad, rfl, hcell⟩ := hr (hne (by omega))
     obtain ⟨t, rfl⟩ := list_one ks hk;obtain ⟨v, rfl⟩ := list_one vs hl;have hv := hI 0 v t rfl rfl;have h0 := hsub _ _ (hcell 0 v rfl)
     have aa : qY op f3 [t].length = true := by rw [hT]; rfl
     obtain h7 | h8 | h9 | af : op = 7 ∨ op = 8 ∨ op = 9 ∨ op = 10 := by omega
     · subst h7
       obtain ⟨T2, u2, rfl⟩ := zL hv
       exact xN (join_neg w f1 f2 f3 ad c T2 u2 h0) aa (.ahead ⟨7, f1, f2, f3⟩ t _ (.inl rfl) hv)
     · subst h8
       cases mat_form hv with
       | no o A n c2 ac h =>
        subst ac
        exact xN (join_sugar w f1 f2 f3 ad c o A n c2 h0) aa (.sugar ⟨8, f1, f2, f3⟩ t _ _ rfl h hv)
       | yes o A n c2 ac h =>
        subst ac
        exact xN (join_not1 w f1 f2 f3 ad c o A n c2 h0) aa (.ahead ⟨8, f1, f2, f3⟩ t _ (.inr ⟨rfl, h⟩) hv)
       | other T u ac hq h =>
        subst ac
        exact xN (join_not2 w f1 f2 f3 ad c T u h0 hq) aa (.ahead ⟨8, f1, f2, f3⟩ t _ (.inr ⟨rfl, h⟩) hv)
     · subst h9
       obtain ⟨T2, u2, rfl⟩ := zL hv
       exact xN (join_isnull w f1 f2 f3 ad c T2 u2 h0) aa (.null ⟨9, f1, f2, f3⟩ t _ (.inl rfl) hv)
     · subst af
       obtain ⟨T2, u2, rfl⟩ := zL hv
       exact xN (join_notnull w f1 f2 f3 ad c T2 u2 h0) aa (.null ⟨10, f1, f2, f3⟩ t _ (.inr rfl) hv)
   · have aa : qY op f3 ks.length = false := by rw [hT]; simp [hk]
     obtain h7 | h8 | h9 | af : op = 7 ∨ op = 8 ∨ op = 9 ∨ op = 10 := by omega
     · subst h7; exact zT (join_miss7 w f1 f2 f3 A _ c hk hn) aa
     · subst h8; exact zT (join_miss8 w f1 f2 f3 A _ c hk hn) aa
     · subst h9; exact zT (join_miss9 w f1 f2 f3 A _ c hk hn) aa
     · subst af; exact zT (join_miss10 w f1 f2 f3 A _ c hk hn) aa
 by_cases a4 : op ≤ 24
 · have hT : qY op f3 ks.length = decide (ks.length = 2) := by unfold qY; rw [if_neg (by omega), if_neg (by omega), if_pos (by omega)]
   by_cases hk : ks.length = 2
   · obtain ⟨ad, rfl, hcell⟩ := hr (hne (by omega))
     obtain ⟨t, s, rfl⟩ := list_two ks hk;obtain ⟨v, u, rfl⟩ := list_two vs hl;have hv := hI 0 v t rfl rfl;have hu := hI 1 u s rfl rfl;obtain ⟨T2, u2, rfl⟩ := zL hv;obtain ⟨T3, u3, rfl⟩ := zL hu
     exact xN (join_two w f1 f2 f3 op (by omega) a4 ad c T2 u2 T3 u3 (hsub _ _ (hcell 0 _ rfl)) (hsub _ _ (hcell 1 _ rfl))) (by show qY op f3 _ = true; rw [hT]; rfl) (.binary ⟨op, f1, f2, f3⟩ t s _ _ (by show 11 ≤ op; omega) a4 hv hu)
   · exact zT (join_misstwo w op f1 f2 f3 A _ c (by omega) a4 hk) (by show qY op f3 _ = false; rw [hT]; simp [hk])
 obtain h | h | h | h | h : op = 25 ∨ op = 26 ∨ op = 27 ∨ op = 28 ∨ op = 29 := by omega
 · subst h
   have hT : qY 25 f3 ks.length = decide (ks.length = 2) := rfl
   by_cases hk : ks.length = 2
   · have h1 := xN (x := ⟨25, f1, f2, f3⟩) (join_like w f1 f2 f3 A c) (show qY 25 f3 ks.length = true by rw [hT]; simp [hk]) (by rw [← hk]; exact .matched ⟨25, f1, f2, f3⟩ ks vs A c rfl ⟨fun _ => hk, fun h => (by have h2 : (25 : Int) = 26 := h; omega), fun h => (by have h2 : (25 : Int) = 27 := h; omega)⟩ hc hl (hr (hne (by omega))) hI)
     rw [← hk] at h1; exact h1
   · exact zT (join_miss25 w f1 f2 f3 A _ c hk hn) (by show qY 25 f3 _ = false; rw [hT]; simp [hk])
 · subst h
   have hT : qY 26 f3 ks.length = decide (ks.length = 3) := rfl
   by_cases hk : ks.length = 3
   · have h1 := xN (x := ⟨26, f1, f2, f3⟩) (join_between w f1 f2 f3 A c) (show qY 26 f3 ks.length = true by rw [hT]; simp [hk]) (by rw [← hk]; exact .matched ⟨26, f1, f2, f3⟩ ks vs A c rfl ⟨fun h => (by have h2 : (26 : Int) = 25 := h; omega), fun _ => hk, fun h => (by have h2 : (26 : Int) = 27 := h; omega)⟩ hc hl (hr (hne (by omega))) hI)
     rw [← hk] at h1; exact h1
   · exact zT (join_miss26 w f1 f2 f3 A _ c hk hn) (by show qY 26 f3 _ = false; rw [hT]; simp [hk])
 · subst h
   have hT : qY 27 f3 ks.length = decide (2 ≤ ks.length ∧ ks.length ≤ 17) := rfl
   by_cases hk : 2 ≤ ks.length ∧ ks.length ≤ 17
   · exact xN (x := ⟨27, f1, f2, f3⟩) (join_in w f1 f2 f3 A _ c hk) (show qY 27 f3 ks.length = true by rw [hT]; simp [hk]) (.matched ⟨27, f1, f2, f3⟩ ks vs A c rfl ⟨fun h => (by have h2 : (27 : Int) = 25 := h; omega), fun h => (by have h2 : (27 : Int) = 26 := h; omega), fun _ => hk.1⟩ hc hl (hr (hne (by omega))) hI)
   · exact zT (join_miss27 w f1 f2 f3 A _ c (by omega) hn) (by show qY 27 f3 _ = false; rw [hT]; exact decide_eq_false hk)
 · subst h
   have hT : qY 28 f3 ks.length = decide (3 ≤ ks.length ∧ ks.length ≤ 33 ∧ ks.length % 2 = 1) := rfl
   by_cases hk : 3 ≤ ks.length ∧ ks.length ≤ 33 ∧ ks.length % 2 = 1
   · exact xN (x := ⟨28, f1, f2, f3⟩) (join_case w f1 f2 f3 A _ c hk) (show qY 28 f3 ks.length = true by rw [hT]; simp [hk]) (.choice ⟨28, f1, f2, f3⟩ ks vs A c rfl ⟨hk.1, hk.2.2⟩ hc hl (hr (hne (by omega))) hI)
   · exact zT (join_miss28 w f1 f2 f3 A _ c (by omega) hn) (by show qY 28 f3 _ = false; rw [hT]; exact decide_eq_false hk)
 · subst h
   have hT : qY 29 f3 ks.length = vA f3 ks.length := rfl
   cases hs : vA f3 ks.length with
   | true =>
    have h1 : 1 ≤ ks.length := by
     unfold vA at hs;simp only [Bool.and_eq_true, decide_eq_true_eq] at hs;have := span_least f3 hs.1.1
     omega
    exact xN (x := ⟨29, f1, f2, f3⟩) (join_call w f1 f2 f3 A _ c hs) (show qY 29 f3 ks.length = true by rw [hT, hs]) (.called ⟨29, f1, f2, f3⟩ ks vs A c rfl h1 hc hl (hr (hne h1)) hI)
   | false =>
    have aa : qY 29 f3 ks.length = false := by rw [hT, hs]
    have hf := span_at f3;unfold vA at hs
    cases hok : (xr f3).2.2 with
    | false => rw [hok] at hf; exact zT (join_callmiss0 w f1 f2 f3 A _ c _ _ hf) aa
    | true =>
     rw [hok] at hf hs
     by_cases hlo : (xr f3).1 ≤ (ks.length : Int)
     · have hhi : (xr f3).2.1 < (ks.length : Int) := by
        simp only [Bool.true_and, decide_eq_true hlo, decide_eq_false_iff_not] at hs
        omega
       exact zT (join_callmiss2 w f1 f2 f3 A _ c _ _ hf hlo hhi) aa
     · exact zT (join_callmiss1 w f1 f2 f3 A _ c _ _ hf (by omega)) aa
theorem IsT.cells {w w' : World} (hs : ∀ a u, w.cell? a = some u → w'.cell? a = some u) {v : Value} {t : Tr} (h : IsT w v t) : IsT w' v t := by
 have hrow : ∀ {A : Option Addr} {vs : List Value}, RowV w A vs → RowV w' A vs := by
  rintro A vs ⟨ad, rfl, h⟩
  exact ⟨ad, rfl, fun i v hv => hs _ _ (h i v hv)⟩
 induction h with
 | leaf x h1 h6 => exact .leaf x h1 h6
 | ahead x t v hx h ih => exact .ahead x t v hx ih
 | sugar x t o sl hx ht h ih => exact .sugar x t o sl hx ht ih
 | null x t v hx h ih => exact .null x t v hx ih
 | binary x a b va vb h1 h2 ha hb iha ihb => exact .binary x a b va vb h1 h2 iha ihb
 | matched x ks vs A c hx hn hc hl hr h ih => exact .matched x ks vs A c hx hn hc hl (hrow hr) ih
 | choice x ks vs A c hx hn hc hl hr h ih => exact .choice x ks vs A c hx hn hc hl (hrow hr) ih
 | called x ks vs A c hx hn hc hl hr h ih => exact .called x ks vs A c hx hn hc hl (hrow hr) ih
open Classical in
noncomputable def hide (w : World) (P : Nat → Prop) : World := { w with heap := w.heap.mapIdx fun k o => if P k then o else .cells #[] 0 (0, 0) }
theorem hide_cell (w : World) (P : Nat → Prop) (a : Addr) (u : Value) : (hide w P).cell? a = some u ↔ P a.block ∧ w.cell? a = some u := by
 unfold World.cell? hide;simp only [Array.getElem?_mapIdx]
 cases hh : w.heap[a.block]? with
 | none => simp
 | some o =>
  simp only [Option.map_some]
  by_cases hp : P a.block
  · simp [hp]
  · simp [hp]
theorem hide_sub {w w' : World} {P P' : Nat → Prop} (h : ∀ k, P k → k < w.heap.size → P' k ∧ w'.heap[k]? = w.heap[k]?) : ∀ a u, (hide w P).cell? a = some u → (hide w' P').cell? a = some u := by
 intro a u hu;obtain ⟨hp, hc⟩ := (hide_cell w P a u).1 hu;have hlt := World.block_lt_of_cell? w a hc;obtain ⟨hp', he⟩ := h _ hp hlt;refine (hide_cell w' P' a u).2 ⟨hp', ?_⟩;unfold World.cell? at hc ⊢
 rw [he]; exact hc
theorem hide_self (w : World) (P : Nat → Prop) : ∀ a u, (hide w P).cell? a = some u → w.cell? a = some u := fun a u h => ((hide_cell w P a u).1 h).2
abbrev okT (w : World) (base : Nat) (ok : Nat → Prop) (k : Nat) : Prop := ok k ∧ base ≤ k ∧ ∃ cells, w.heap[k]? = some (.cells cells 227 (0, 0))
def kT : Kd Tr where
 sz := 1
 E := [227]
 K := fun w t cs => ∃ v, cs = [v] ∧ IsT w v t
 M := fun w base ok t cs => ∃ v, cs = [v] ∧ IsT (hide w (okT w base ok)) v t
 K_len := by rintro w x cs ⟨v, rfl, h⟩; rfl
 K_one := by
  rintro w x cs ⟨v, rfl, h⟩ u hu
  obtain rfl := List.mem_singleton.1 hu;obtain ⟨T, y, rfl⟩ := zL h
  rfl
 K_below := by
  rintro w w1 x cs hb ⟨v, rfl, h⟩
  exact ⟨v, rfl, h.cells (fun a u hu => (hb.cell (World.block_lt_of_cell? w a hu)).trans hu)⟩
 K_of_M := by
  rintro w base ok x cs ⟨v, rfl, h⟩
  exact ⟨v, rfl, h.cells (hide_self _ _)⟩
 M_mono := by
  rintro w base ok ok' x cs hk ⟨v, rfl, h⟩
  exact ⟨v, rfl, h.cells (hide_sub (fun k hp _ => ⟨⟨hk k hp.1, hp.2⟩, rfl⟩))⟩
 M_bound := by
  rintro w base ok x cs ⟨v, rfl, h⟩
  exact ⟨v, rfl, h.cells (hide_sub (fun k hp hlt => ⟨⟨⟨hp.1, hp.2.1, hlt, _, List.mem_singleton.2 rfl, hp.2.2⟩, hp.2⟩, rfl⟩))⟩
 M_move := by
  rintro w w1 base ok x cs hm ⟨v, rfl, h⟩
  exact ⟨v, rfl, h.cells (hide_sub (fun k hp _ => ⟨⟨hp.1, hp.2.1, by rw [hm k hp.1]; exact hp.2.2⟩, hm k hp.1⟩))⟩
 M_lower := by
  rintro w base base' ok x cs hb ⟨v, rfl, h⟩
  exact ⟨v, rfl, h.cells (hide_sub (fun k hp _ => ⟨⟨hp.1, Nat.le_trans hb hp.2.1, hp.2.2⟩, rfl⟩))⟩
theorem take_one {α : Type} (l : List α) (i : Nat) (v : α) (h : l[i]? = some v) : (l.drop (i * 1)).take 1 = [v] := by
 obtain ⟨hi, rfl⟩ := List.getElem?_eq_some_iff.1 h;rw [Nat.mul_one, List.drop_eq_getElem_cons hi]
 rfl
theorem kids_of {w2 : World} {base : Nat} {ok : Nat → Prop} {A : Option Addr} {n c : Nat} {ks : List Tr} (h : Kd.R kT 227 w2 base ok (.slice A n c) ks) :
 ∃ vs : List Value, vs.length = ks.length ∧ (ks ≠ [] → RowV (hide w2 (okT w2 base ok)) A vs) ∧ ∀ (i : Nat) v t, vs[i]? = some v → ks[i]? = some t → IsT (hide w2 (okT w2 base ok)) v t := by
 obtain ⟨h0, inner, hown, hr⟩ := h
 have hl : inner.length = ks.length := by have := hr.1; rw [this]; exact Nat.mul_one _
 refine ⟨inner, hl, fun hne => ?_, fun i v t hv ht => ?_⟩
 · obtain ⟨h1, h2⟩ := hown
   rcases h2 with ⟨_, h2⟩ | ⟨g, cap, cur, he, hg, hh, hnc, hcm, hcs, ht⟩
   · exact absurd (List.eq_nil_of_length_eq_zero h2) hne
   · injection he with e1 e2 e3
     subst e1;refine ⟨_, rfl, fun i v hv => ?_⟩;rw [hide_cell]
     have hb : (Addr.add ⟨g, 0, none⟩ i).block = g := by unfold Addr.add; split <;> rfl
     refine ⟨⟨by rw [hb]; exact h0 g (by simp [Value.ownBlock]), by rw [hb]; exact hg, by rw [hb]; exact ⟨cur, hh⟩⟩, ?_⟩
     have ha : Addr.add ⟨g, 0, none⟩ i = ⟨g, i, none⟩ := by
      unfold Addr.add
      by_cases hi : i = 0
      · rw [if_pos hi, hi]
      · rw [if_neg hi]; simp
     rw [ha, qa hh i];rw [← ht] at hv;rw [List.getElem?_take] at hv
     split at hv
     · rw [← Array.getElem?_toList]; exact hv
     · cases hv
 · have h3 := hr.2 i t ht
   obtain ⟨u, hu, hI⟩ := h3;rw [show kT.sz = 1 from rfl, take_one inner i v hv] at hu
   injection hu with hu _
   subst hu
   exact hI.cells (hide_sub (fun k hp _ => ⟨⟨hp.1.1, hp.2⟩, rfl⟩))
theorem M_of {w2 : World} {base : Nat} {ok : Nat → Prop} {v : Value} {t : Tr} (h : IsT (hide w2 (okT w2 base ok)) v t) : kT.M w2 base ok t [v] := ⟨v, rfl, h⟩
def xa (x : Nd) : Bool := (tongue_holds.f 1 x.f0 x.f1 x.f2 x.f3).getD false
theorem holds_at (x : Nd) : tongue_holds.f 1 x.f0 x.f1 x.f2 x.f3 = some (xa x) := by
 have h : ∃ r, tongue_holds.f 1 x.f0 x.f1 x.f2 x.f3 = some r := by
  have hn : ∃ r, zw.f x.f3 = some r := by
   unfold zw.f
   by_cases h1 : x.f3.toList = ([] : List UInt8)
   · exact ⟨_, if_pos h1⟩
   · exact ⟨_, if_neg h1⟩
  obtain ⟨r, hr⟩ := hn
  have hj : ∀ b, ∃ r, tongue_holds.j0 1 b x.f0 x.f1 x.f2 x.f3 = some r := by
   intro b;simp only [tongue_holds.j0];rw [hr]
   by_cases h1 : b = true
   · exact ⟨_, if_pos h1⟩
   rw [if_neg h1]
   by_cases h2 : x.f0 = 2
   · exact ⟨_, if_pos h2⟩
   rw [if_neg h2]
   by_cases h3 : x.f0 = 6
   · rw [if_pos h3]; exact ⟨_, rfl⟩
   rw [if_neg h3]
   by_cases h4 : x.f0 = 29
   · exact ⟨_, if_pos h4⟩
   rw [if_neg h4]
   exact ⟨_, rfl⟩
  unfold tongue_holds.f
  by_cases h1 : x.f2 < 0
  · rw [if_pos h1]; exact hj _
  rw [if_neg h1]
  by_cases h2 : x.f2 > 0
  · rw [if_pos h2]; exact hj _
  rw [if_neg h2]; exact hj _
 obtain ⟨r, hr⟩ := h;unfold xa
 rw [hr]; rfl
theorem vQ (x : Nd) (h : xa x = true) (h6 : x.f0 = 6) : 0 < x.f3.size := by
 have h1 := holds_at x;rw [h] at h1
 have hne : x.f3.toList ≠ [] := by
  intro h0
  have hn : zw.f x.f3 = some false := by unfold zw.f; rw [if_pos h0]
  have hj : ∀ b, tongue_holds.j0 1 b x.f0 x.f1 x.f2 x.f3 = some false := by
   intro b;simp only [tongue_holds.j0]
   by_cases hb : b = true
   · rw [if_pos hb]
   rw [if_neg hb, if_neg (by omega), if_pos h6, hn]
   rfl
  unfold tongue_holds.f at h1;rw [hj, hj, hj] at h1
  simp at h1
 rcases Nat.eq_zero_or_pos x.f3.size with h0 | h0
 · refine absurd ?_ hne
   have hd : x.f3 = ⟨#[]⟩ := by
    cases hx : x.f3 with
    | mk d =>
     rw [hx] at h0;have : d = #[] := Array.eq_empty_of_size_eq_zero h0;rw [this]
   rw [hd]; rw [ByteArray.toList_eq]
 · exact h0
theorem Q_readsM {α : Type} {d : Kd α} {e : Nat} {w : World} {base : Nat} {ok : Nat → Prop} {xs : List α} {A : Option Addr} {n c : Nat} (h : d.Q e w base ok (.slice A n c) xs) : zx (d.M w base (fun k => ok k ∧ some k ≠ (Value.slice A n c).ownBlock)) d.sz w A xs.length xs := by
 obtain ⟨_, inner, ho, hr⟩ := h;obtain ⟨A', c', he, hl⟩ := q_slice ho
 injection he with h1 h2 h3
 subst h1; subst h2; subst h3
 refine ⟨rfl, q_max ho, fun hp => ?_⟩;obtain ⟨ad, ha, hc⟩ := q_cells ho hp;refine ⟨ad, ha, fun j p hj => ⟨(inner.drop (j * d.sz)).take d.sz, ?_, hr.2 j p hj, fun i u hu => ?_⟩⟩
 · have hjl := (List.getElem?_eq_some_iff.1 hj).1
   have h1 : j * d.sz + d.sz ≤ inner.length := by rw [hr.1, ← Nat.succ_mul]; exact Nat.mul_le_mul_right _ hjl
   rw [List.length_take, List.length_drop]
   omega
 · refine hc _ u ?_
   rw [List.getElem?_take] at hu
   split at hu
   · rw [List.getElem?_drop] at hu
     exact hu
   · cases hu
theorem step_rows {α : Type} (d : Kd α) {Rr : α → List Value → Prop} {w0 W : World} {P : Program} {ops : Array Oper} {o : Oper} {a : Act} {K : Act → World → Prop} {Q : Exit → Act → World → Prop} {E : Prop} (base : Nat) (hgd : o.guard = none) (s x : Operand) (t e : TypeId) (z : Value) (bytes : Nat)
 (ho : o.op = .call { callee := .builtin .append, args := #[s, x], argTypes := #[t, t] })
 (ht : P.underlying t = some (.slice e)) (hinfo : (P.info? e).map (fun i => (i.zero, i.size, i.bytes)) = some (some z, d.sz, bytes)) (hz : z.cells.size = d.sz) (ac : 0 < d.sz) (ae : 0 < bytes)
 (v : Value) (xs ys : List α) (A : Option Addr) (m c : Nat) (ok okp : Nat → Prop) (hs : a.eval s = v) (hx : a.eval x = .slice A m c)
 (HO : d.R e W base ok v xs) (HR : zx Rr d.sz W A m ys) (hKM : ∀ x cs, Rr x cs → d.M W base okp x cs) (hokp : ∀ k, okp k → ok k ∧ some k ≠ v.ownBlock) (hfresh : ∀ k, W.heap.size ≤ k → ok k)
 (HB : Below base w0 W) (hbase : base ≤ W.heap.size) (hl : (xs.length + m) * bytes ≤ 140737488355328)
 (h : ∀ v1 w1, d.R e w1 base ok v1 (xs ++ ys) → Below base w0 w1 → W.grownBy w1 v.ownBlock → (v1.ownBlock = v.ownBlock ∨ ∃ b, v1.ownBlock = some b ∧ W.heap.size ≤ b) → K (a.put o.dst v1) w1) :
 if Region.wanted o (yielded ops a.tmps) = true then Oper.wp P o a W K Q else E := by
 have hw : Region.wanted o (yielded ops a.tmps) = true := by simp [Region.wanted, hgd]
 have := Kd.R_append_rows_step (Q := Q) d base hw s x t e z bytes ho ht hinfo hz ac ae v xs ys A m c ok okp hs hx HO HR hKM hokp hfresh HB hbase hl h;rw [if_pos hw] at this ⊢
 exact this
theorem cut_stack {w w1 : World} {A : Option Addr} {c q : Nat} {st : List Tr} (h : Kd.R kT 227 w1 w.heap.size (fun _ => True) (.slice A st.length c) st) (hq : q ≤ st.length) :
 ∃ A4 c4, (∀ W, (Instr.slice 248 (.slice A st.length c) (some (.int .i64 (q : Int))) none none).run Tryz.prog W = .ok (.slice A4 (st.length - q) c4) W) ∧ zx (kT.M w1 w.heap.size (fun k => some k ≠ (Value.slice A st.length c).ownBlock)) 1 w1 A4 (st.length - q) (st.drop q) := by
 obtain ⟨i, hi, hs⟩ : ∃ i, Tryz.prog.info? 227 = some i ∧ i.size = 1 := by
  have q : (Tryz.prog.info? 227).map (·.size) = some 1 := by kernel_rfl
  cases hh : Tryz.prog.info? 227 with
  | none => rw [hh] at q; cases q
  | some i => rw [hh] at q; exact ⟨i, rfl, by simpa using q⟩
 have hQ := Kd.Q_drop (Kd.Q_of_R h) hq;have hr := Q_readsM hQ;refine ⟨(if c = q then A else A.map (·.add (q * 1))), c - q, fun W => ?_, ?_⟩
 · have h := vE (P := Tryz.prog) 248 227 .i64 (by kernel_rfl) hi 1 hs A st.length c (q : Int) (by omega) (by omega) W
   rw [Int.toNat_natCast] at h
   exact h
 · have hb : (Value.slice (if c = q then A else A.map (·.add (q * 1))) (st.length - q) (c - q)).ownBlock = (Value.slice A st.length c).ownBlock := by
    split
    · cases A <;> rfl
    · cases A with
      | none => rfl
      | some a => simp [Value.ownBlock]; unfold Addr.add; split <;> rfl
   have hl : (st.drop q).length = st.length - q := List.length_drop;obtain ⟨r1, r2, r3⟩ := hr;refine ⟨hl, by rw [← hl]; exact r2, fun hp => ?_⟩;obtain ⟨ad, ha, hc⟩ := r3 (by omega);refine ⟨ad, ha, fun j p hj => ?_⟩;obtain ⟨cc, e1, e2, e3⟩ := hc j p hj
   exact ⟨cc, e1, kT.M_mono (fun k hk => by rw [← hb]; exact hk.2) e2, e3⟩
theorem readsM_drew {w : World} {base : Nat} {ok : Nat → Prop} {A : Option Addr} {m : Nat} {xs : List Tr} (h : zx (kT.M w base ok) 1 w A m xs) : zx (kT.M w.drew base ok) kT.sz w.drew A m xs := by
 obtain ⟨r1, r2, r3⟩ := h;refine ⟨r1, r2, fun hp => ?_⟩;obtain ⟨ad, ha, hc⟩ := r3 hp;refine ⟨ad, ha, fun j p hj => ?_⟩;obtain ⟨cc, e1, e2, e3⟩ := hc j p hj
 exact ⟨cc, e1, kT.M_move (w := w) (w1 := w.drew) (fun k _ => rfl) e2, e3⟩
theorem infoTree_ex : ∃ i, Tryz.prog.info? 227 = some i := by
 have q : (Tryz.prog.info? 227).map (·.size) = some 1 := by kernel_rfl
 cases hh : Tryz.prog.info? 227 with
 | none => rw [hh] at q; cases q
 | some i => exact ⟨i, rfl⟩
def JoinRes (W : World) (x : Nd) (ks : List Tr) (v : Value) : Prop := (qY x.f0 x.f3 ks.length = true ∧ IsT W v ⟨x, ks⟩) ∨ (qY x.f0 x.f3 ks.length = false ∧ v = .nilIface)
theorem join_res {W w : World} {x : Nd} {ks : List Tr} {args : Array Value} (h : Calls Tryz.prog 170 args w (JoinOut W w x ks)) : Calls Tryz.prog 170 args w fun e w' => ∃ v, e = .returned v ∧ Below w.heap.size w w' ∧ JoinRes W x ks v :=
 h.mono (by
  rintro e w' ⟨hb, ⟨ht, v, rfl, hI⟩ | ⟨ht, rfl⟩⟩
  · exact ⟨v, rfl, hb, .inl ⟨ht, hI⟩⟩
  · exact ⟨_, rfl, hb, .inr ⟨ht, rfl⟩⟩)
def xt (st : List Tr) (x : Nd) : Option (List Tr) :=
 if x.f1 < 0 ∨ (st.length : Int) < x.f1 ∨ xa x = false then none
 else if qY x.f0 x.f3 x.f1.toNat = true then some (st.take (st.length - x.f1.toNat) ++ [⟨x, st.drop (st.length - x.f1.toNat)⟩]) else none
def runP : List Tr → List Nd → Option (List Tr)
 | st, [] => some st
 | st, x :: r => (xt st x).bind fun s => runP s r
theorem runP_at (st : List Tr) (xs : List Nd) (k : Nat) (hk : k < xs.length) : runP st (xs.drop k) = (xt st xs[k]).bind fun s => runP s (xs.drop (k + 1)) := by
 rw [List.drop_eq_getElem_cons hk]; rfl
theorem rdN_lt (xs : List Nd) (k : Nat) (hk : k < xs.length) : qi xs (k : Int) = xs[k] := by
 simp [qi, hk]
def okNd (x : Nd) : Prop := -9223372036854775808 ≤ x.f1 ∧ x.f1 ≤ 9223372036854775807 ∧ -9223372036854775808 ≤ x.f2 ∧ x.f2 ≤ 9223372036854775807 ∧ x.f3.size ≤ 1000000000
def zE (xs : List Nd) : Option Tr := match runP [] xs with
 | some [t] => some t
 | _ => none
def GrownOut (w : World) (xs : List Nd) (e : Ending) (w' : World) : Prop := Below w.heap.size w w' ∧ ((zE xs = none ∧ e = .returned .nilIface) ∨ ∃ t v, zE xs = some t ∧ e = .returned v ∧ IsT w' v t)
set_option maxHeartbeats 4000000 in
set_option maxRecDepth 100000 in
theorem grown_calls (w : World) (A : Option Addr) (n c : Nat) (xs : List Nd) (hC : Kd.C k86 w A n xs) (hok : ∀ x ∈ xs, okNd x) (hn : n ≤ 1000000) (hG : GT w) :
 Calls Tryz.prog 151 #[.slice A n c] w (GrownOut w xs) := by
 have HC := Aside0.mk hC;have HK := Aside0.mk hok;have HG := Aside0.mk hG;have hnx : xs.length = n := hC.1;have HNX := Aside0.mk hnx;clear hC hok hG hnx;have av : Aside0 (Kd.R kT 227 w w.heap.size (fun _ => True) (.slice none 0 0) []) := ⟨Kd.R_nil _ _ _ _ _⟩
 go_enter Tryz.func151, Tryz.ntmps151
 go_wp2
 go_loopw [3, 5, 6, 7, 10] (fun v3 v5 v6 v7 ak wr => ∃ (k : Nat) (st : List Tr), k ≤ n ∧ ak = .int .i64 (k : Int) ∧ st.length ≤ k ∧ Aside0 (runP [] xs = runP st (xs.drop k)) ∧ Aside0 (Kd.R kT 227 wr w.heap.size (fun _ => True) v3 st) ∧ Aside0 (Below w.heap.size w wr)) (fun _ _ _ _ ak _ => n - (intOf ak).toNat)
 case atStart => exact ⟨0, [], Nat.zero_le _, rfl, Nat.le_refl _, ⟨rfl⟩, av, ⟨Below.refl _ _⟩⟩
 case round =>
  clear av;obtain ⟨k, st, hk, rfl, hst, HP, HR, HB⟩ := hrel;obtain ⟨A3, c3, rfl, a9⟩ := Kd.Q_slice (Kd.Q_of_R HR.out)
  by_cases hlt : k < n
  · have d1 : decide ((k : Int) < (n : Int)) = true := decide_eq_true (by omega)
    have d9 : (k : Int) < (n : Int) := by omega
    have hlx : k < xs.length := by rw [HNX.out]; exact hlt
    obtain ⟨ad, rfl, g0, g1, g2, g3⟩ := xZ (Kd.C_below HC.out HB.out) (k : Int) (by omega) d9;have ek : ((k : Int)).toNat = k := Int.toNat_natCast k;rw [rdN_lt xs k hlx, ek] at g0 g1 g2 g3;have HX := Aside0.mk (runP_at st xs k hlx);have HO := Aside0.mk (HK.out xs[k] (List.getElem_mem hlx));generalize xs[k] = x at *;obtain ⟨op, f1, f2, f3⟩ := x
    dsimp only at g0 g1 g2 g3
    clear ek
    have nilOut : ∀ (w' : World), Below w.heap.size w w' → xt st ⟨op, f1, f2, f3⟩ = none → GrownOut w xs (.returned .nilIface) w' := fun w' hb hs => ⟨hb, .inl ⟨by unfold zE; rw [HP.out, HX.out, hs]; rfl, rfl⟩⟩
    have HNil := Aside0.mk nilOut;clear nilOut;have ab := Aside0.mk (qy HB.out HB.out.size (q8 (Below.refl wr.heap.size wr) (.cells #[.int .i64 op, .int .i64 f1, .int .i64 f2, .string f3] 86)));have K5 := qL wr (.cells #[.int .i64 op, .int .i64 f1, .int .i64 f2, .string f3] 86)
    by_cases a1 : f1 < 0
    · have e1 : decide (f1 < 0) = true := decide_eq_true a1
      have hs : xt st ⟨op, f1, f2, f3⟩ = none := by unfold xt; rw [if_pos (.inl a1)]
      have HSN := Aside0.mk hs;clear hs;go_wp2
      go_ret
      exact HNil.out _ ab.out HSN.out
    · have e1 : decide (f1 < 0) = false := decide_eq_false a1
      have hr := HO.out;unfold okNd at hr
      dsimp only at hr
      have al : IntKind.i64.wrap ((st.length : Int) - f1) = (st.length : Int) - f1 := IntWalk.i64_in _ (by omega)
      by_cases a2 : (st.length : Int) < f1
      · have ew := al
        have e2 : decide ((st.length : Int) - f1 < 0) = true := decide_eq_true (by omega)
        have hs : xt st ⟨op, f1, f2, f3⟩ = none := by unfold xt; rw [if_pos (.inr (.inl a2))]
        have HSN := Aside0.mk hs;clear hs;go_wp2
        go_ret
        exact HNil.out _ ab.out HSN.out
      · obtain ⟨q, hq⟩ : ∃ q : Nat, (st.length : Int) - f1 = (q : Int) := ⟨((st.length : Int) - f1).toNat, by omega⟩
        have hqn : st.length - f1.toNat = q := by omega
        have hqs : q ≤ st.length := by omega
        have ew : IntKind.i64.wrap ((st.length : Int) - f1) = (q : Int) := al.trans hq;have e2 : decide ((q : Int) < 0) = false := decide_eq_false (by omega);have HQ := Aside0.mk (And.intro hq (And.intro hqn hqs));clear hq hqn al;have HH := Aside0.mk (holds_at ⟨op, f1, f2, f3⟩);obtain ⟨r, hrr⟩ : ∃ r, r = xa ⟨op, f1, f2, f3⟩ := ⟨_, rfl⟩;rw [← hrr] at HH;have HHB := Aside0.mk hrr;clear hrr
        cases r with
        | false =>
         have hs : xt st ⟨op, f1, f2, f3⟩ = none := by unfold xt; rw [if_pos (.inr (.inr HHB.out.symm))]
         have HSN := Aside0.mk hs;clear hs
         go_wp2_with (first | (go_at_call 169; go_must (refine (tongue_holds.calls 1 op f1 f2 f3 false _ HH.out).mono ?_; rintro e w1 ⟨rfl, hb⟩; have ah := Aside0.mk (qy ab.out ab.out.size hb))))
         go_ret
         exact HNil.out _ ah.out HSN.out
        | true =>
         go_upto_region 8 with (first | (go_at_call 169; go_must (refine (tongue_holds.calls 1 op f1 f2 f3 true _ HH.out).mono ?_; rintro e w1 ⟨rfl, hb⟩; have ah := Aside0.mk (qy ab.out ab.out.size hb); have HbA := Aside0.mk (qy (q8 (Below.refl wr.heap.size wr) (.cells #[.int .i64 op, .int .i64 f1, .int .i64 f2, .string f3] 86)) (by simp) hb); have k5 := (hb.block wr.heap.size (by simp)).trans K5)))
         have bz : w1.cell? ⟨wr.heap.size, 0, none⟩ = some (.int .i64 op) := (qa k5 0).trans rfl;have b0 : w1.cell? ⟨wr.heap.size, 1, none⟩ = some (.int .i64 f1) := (qa k5 1).trans rfl;have b1 : w1.cell? ⟨wr.heap.size, 2, none⟩ = some (.int .i64 f2) := (qa k5 2).trans rfl;have b2 : w1.cell? ⟨wr.heap.size, 3, none⟩ = some (.string f3) := (qa k5 3).trans rfl;have an := Aside0.mk (Kd.R_below HR.out HbA.out);obtain ⟨A4, c4, hcut, hrr⟩ := cut_stack an.out hqs;have HRR := Aside0.mk hrr;clear hrr hb;have hown : ∀ j, (Value.slice A3 st.length c3).ownBlock = some j → j < w1.heap.size := Kd.R_lt an.out;have HOW := Aside0.mk hown;clear hown;obtain ⟨ks, hks⟩ : ∃ ks, ks = st.drop q := ⟨_, rfl⟩
         have hkl : ks.length = st.length - q := by rw [hks, List.length_drop]
         have hkf : ks.length = f1.toNat := by have := HQ.out; omega
         have HKS := Aside0.mk (And.intro hks (And.intro hkl hkf));rw [← hks, ← hkl] at HRR;rw [← hkl] at hcut;obtain ⟨it, hit⟩ := infoTree_ex;have hto := cut_to (P := Tryz.prog) 248 227 .i64 (by kernel_rfl) hit A3 st.length c3 (q : Int) (by omega) (by omega) a9;rw [Int.toNat_natCast] at hto;have HTO := Aside0.mk hto;clear hks hkl hkf hto hit
         go_region_law (first
          | ((try go_simp); go_at_call 170; have aw := vQ ⟨op, f1, f2, f3⟩ HHB.out.symm; have ax := HG.out.below ao.out; have hj := join_res (join_calls ⟨op, f1, f2, f3⟩ _ _ (hide_self _ _) A5 ks vs c5 HV.out.1 HV.out.2.1 HV.out.2.2.1 HV.out.2.2.2 (by have := HKS.out.2.1; omega) ⟨hr.2.2.1, hr.2.2.2.1⟩ hr.2.2.2.2 aw ax); refine hj.mono ?_; rintro e w3 ⟨v7, rfl, ai, hcase⟩; have ap := Aside0.mk (qy ao.out ao.out.size ai); have bg := Aside0.mk (Kd.R_below a5.out ai); have bh := Aside0.mk ai; have HCS := Aside0.mk hcase; clear ai hcase hj aw ax)
          | (refine step_rows kT (Rr := kT.M w1.drew w.heap.size (fun j => some j ≠ (Value.slice A3 st.length c3).ownBlock)) (w0 := w) w.heap.size rfl (.const (.slice none 0 0)) (.tmp 34) 248 227 .nilIface 16 rfl Tryz.underlying248 (by kernel_rfl) rfl (by decide) (by decide) (.slice none 0 0) [] ks A4 ks.length c4 (fun j => some j ≠ (Value.slice A3 st.length c3).ownBlock) (fun j => some j ≠ (Value.slice A3 st.length c3).ownBlock) rfl rfl (Kd.R_nil _ _ _ _ _) (readsM_drew HRR.out) (fun _ _ h => h) (fun j hj => ⟨hj, fun h => by cases h⟩) (fun j hj => fun he => by have := HOW.out j he.symm; have : w1.drew.heap.size = w1.heap.size := rfl; omega) (qb ah.out) ah.out.size (by have := HKS.out.2.1; simp only [List.length_nil]; omega) ?_; intro v1 w2 ac ay au a6; simp only [List.nil_append] at ac; obtain ⟨A5, c5, rfl, az⟩ := Kd.Q_slice (Kd.Q_of_R ac); have b3 := Aside0.mk ac; have ao := Aside0.mk ay; obtain ⟨vs, ae, af, ag⟩ := kids_of ac; have HV := Aside0.mk (And.intro ae (And.intro af (And.intro ag az))); have aj := xz (show w1.drew.heap[wr.heap.size]? = some _ from k5) au (by intro h; cases h); have b4 : w2.cell? ⟨wr.heap.size, 0, none⟩ = some (.int .i64 op) := (qa aj 0).trans rfl; have b5 : w2.cell? ⟨wr.heap.size, 1, none⟩ = some (.int .i64 f1) := (qa aj 1).trans rfl; have b6 : w2.cell? ⟨wr.heap.size, 2, none⟩ = some (.int .i64 f2) := (qa aj 2).trans rfl; have b7 : w2.cell? ⟨wr.heap.size, 3, none⟩ = some (.string f3) := (qa aj 3).trans rfl; have a5 := Aside0.mk (Kd.R_grown (Kd.R_drew an.out) au (fun _ _ => by intro h; cases h)); clear ac ay ae af ag az a6 au))
         all_goals (
          have hcn : ¬ (f1 < 0 ∨ (st.length : Int) < f1 ∨ xa ⟨op, f1, f2, f3⟩ = false) := by
           rw [← HHB.out]; have := HQ.out.1; intro h; rcases h with h | h | h
           · have := of_decide_eq_false e1; omega
           · omega
           · cases h
          rcases HCS.out with ⟨htk, hIv⟩ | ⟨htk, rfl⟩
          · obtain ⟨T, u, rfl⟩ := zL hIv
            have HM := Aside0.mk (Kd.M_below (M_of hIv) bh.out)
            have hs : xt st ⟨op, f1, f2, f3⟩ = some (st.take q ++ [⟨⟨op, f1, f2, f3⟩, ks⟩]) := by
             unfold xt;rw [if_neg hcn]
             dsimp only at htk ⊢
             rw [HKS.out.2.2] at htk;rw [if_pos htk, HQ.out.2.1, ← HKS.out.1]
            have HS := Aside0.mk hs;have HOE := Aside0.mk (show (Value.slice A3 q c3).ownBlock = (Value.slice A3 st.length c3).ownBlock by cases A3 <;> rfl);have hto := HTO.out
            have htl : (st.take q).length = q := by rw [List.length_take]; omega
            have HTL := Aside0.mk htl;clear hs hcn htk hIv htl
            go_wp2_with (at_builtin; go_must (refine Kd.R_append kT (w0 := w) w.heap.size rfl (.tmp 41) (.tmp 43) 248 227 .nilIface 16 rfl Tryz.underlying248 (by kernel_rfl) rfl (by decide) (by decide) (.slice A3 q c3) (st.take q) ⟨⟨op, f1, f2, f3⟩, ks⟩ [.iface T u] (fun _ => True) (fun j => some j ≠ (Value.slice A3 st.length c3).ownBlock) rfl rfl HM.out (fun j hj => ⟨trivial, by rw [HOE.out]; exact hj⟩) (fun _ _ => trivial) (Kd.R_take bg.out hqs) ap.out ap.out.size (by rw [HTL.out]; omega) ?_; intro v1 w4 a0 a3 bi a7; have bj := Aside0.mk a0; have bk := Aside0.mk a3; clear a0 a3 bi a7))
            go_roundw
            case rel => exact ⟨k + 1, st.take q ++ [⟨⟨op, f1, f2, f3⟩, ks⟩], by omega, by go_num, by rw [List.length_append, HTL.out, List.length_singleton]; omega, ⟨by rw [HP.out, HX.out, HS.out]; rfl⟩, bj, bk⟩
            case measure => simp [intOf]; omega
          · have hs : xt st ⟨op, f1, f2, f3⟩ = none := by
             unfold xt;rw [if_neg hcn]
             dsimp only at htk ⊢
             rw [HKS.out.2.2] at htk;rw [if_neg (by rw [htk]; decide)]
            have HSN := Aside0.mk hs;clear hs hcn htk;go_wp2
            go_ret
            exact HNil.out _ ap.out HSN.out)
  · have d1 : decide ((k : Int) < (n : Int)) = false := decide_eq_false (by omega)
    obtain rfl : k = n := by omega
    have hrun : runP [] xs = some st := by rw [HP.out, List.drop_of_length_le (by rw [HNX.out]; exact Nat.le_refl _)]; rfl
    by_cases h1 : st.length = 1
    · obtain ⟨t, rfl⟩ := list_one st h1
      obtain ⟨vs, ae, af, ag⟩ := kids_of HR.out;obtain ⟨v, rfl⟩ := list_one vs ae;obtain ⟨ad, rfl, hcell⟩ := af (by simp);have ce : wr.cell? ad = some v := zy ad ▸ hide_self _ _ _ _ (hcell 0 v rfl);have hI := (ag 0 v t rfl rfl).cells (hide_self _ _);have HI := Aside0.mk hI;have HL := Aside0.mk (show zE xs = some t by unfold zE; rw [hrun]);clear ae af ag hcell hI hrun h1;go_wp2
      go_ret
      exact ⟨HB.out, .inr ⟨t, v, HL.out, rfl, HI.out⟩⟩
    · have HL := Aside0.mk (show zE xs = none by
       unfold zE;rw [hrun]
       split
       · rename_i t h2
         injection h2 with h2
         rw [h2] at h1
         simp at h1
       · rfl)
      have m1 : ((st.length : Int) == 1) = false := by simp; omega
      have m2 : ((st.length : Int) != 1) = true := by simp; omega
      clear hrun;go_wp2
      go_ret
      exact ⟨HB.out, .inl ⟨HL.out, rfl⟩⟩
end Go.Proofs.YtfmgbgkcmmpcfaaGreatDoor.PTk

