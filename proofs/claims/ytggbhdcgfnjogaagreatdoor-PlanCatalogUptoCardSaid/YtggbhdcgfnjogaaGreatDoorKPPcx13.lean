import Derived.Test.YtggbhdcgfnjogaaGreatDoorKPPcx0
namespace Go.Proofs.YtggbhdcgfnjogaaGreatDoor.PPc
open Go.RowKit Go.Proofs.YtggbhdcgfnjogaaGreatDoorW.PrintWords Go.Proofs.YtggbhdcgfnjogaaGreatDoorW.PrintLast Go.Proofs.YtggbhdcgfnjogaaGreatDoorW.PrintMore
set_option linter.unusedVariables false
set_option linter.unusedSimpArgs false
def zB.f (a0 : Int) : Option (Bool) := if a0 = 1 then (some true) else (if a0 = 2 then (some true) else (some (a0 == 3)))
set_option maxHeartbeats 8000000 in
set_option maxRecDepth 100000 in
theorem zB.calls (a0 : Int) (r : Bool) (w : World) (h : zB.f a0 = some r) :
 Calls Tryz.prog 49 #[.int .i64 a0] w fun e w' => e = .returned (.bool r) ∧ qE w w' := by
 have H : (if a0 = 1 then (some true) else (if a0 = 2 then (some true) else (some (a0 == 3)))) = some r := h;clear h
 by_cases c2 : a0 = 1
 · rw [if_pos c2] at H
   have c2b0 : (a0 == 1) = true := beq_iff_eq.mpr c2;have c2b1 : (a0 != 1) = false := bne_eq_false_iff_eq.mpr c2;clear c2;obtain rfl := Option.some.inj H
   go_enter Tryz.func49, Tryz.ntmps49
   go_wp2
   go_ret
   exact ⟨by first | rfl | (simp; done) | (simp [*]; done), by repeat (first | exact qE.refl _ | apply qE.step)⟩
 · rw [if_neg c2] at H
   have c2b0 : (a0 == 1) = false := beq_eq_false_iff_ne.mpr c2;have c2b1 : (a0 != 1) = true := bne_iff_ne.mpr c2
   by_cases c3 : a0 = 2
   · rw [if_pos c3] at H
     have c3b0 : (a0 == 2) = true := beq_iff_eq.mpr c3;have c3b1 : (a0 != 2) = false := bne_eq_false_iff_eq.mpr c3;clear c3;obtain rfl := Option.some.inj H
     go_enter Tryz.func49, Tryz.ntmps49
     go_wp2
     go_ret
     exact ⟨by first | rfl | (simp; done) | (simp [*]; done), by repeat (first | exact qE.refl _ | apply qE.step)⟩
   · rw [if_neg c3] at H
     have c3b0 : (a0 == 2) = false := beq_eq_false_iff_ne.mpr c3;have c3b1 : (a0 != 2) = true := bne_iff_ne.mpr c3;obtain rfl := Option.some.inj H
     go_enter Tryz.func49, Tryz.ntmps49
     go_wp2
     go_ret
     exact ⟨by first | rfl | (simp; done) | (simp [*]; done), by repeat (first | exact qE.refl _ | apply qE.step)⟩
def qY.l0 : Nat → List (S49) → ByteArray → Int → Option (Int)
 | 0, _, _, _ => none
 | k + 1, x0, x1, x5 => if x5 < (x0.length : Int) then (if 0 ≤ x5 then (if ((qq x0 x5).f0).toList = x1.toList then (some x5) else (qY.l0 k x0 x1 (wrap64 (x5 + 1)))) else (none)) else (some (-1))
def qY.f (k : Nat) (l0 : List (S49)) (a1 : ByteArray) : Option (Int) := qY.l0 k l0 a1 0
set_option maxHeartbeats 8000000 in
set_option maxRecDepth 100000 in
theorem qY.calls (k : Nat) (A0 : Option Addr) (c0 : Nat) (l0 : List (S49)) (a1 : ByteArray) (r : Int) (w : World) (hr0 : Kd.C k49 w A0 l0.length l0) (hc0 : l0.length ≤ c0) (h : qY.f k l0 a1 = some r) :
 Calls Tryz.prog 50 #[.slice A0 l0.length c0, .string a1] w fun e w' => e = .returned (.int .i64 r) ∧ qE w w' := by
 have HR0 := Aside0.mk hr0;have HC0 := Aside0.mk hc0;clear hr0 hc0;have H : (qY.l0 k l0 a1 0) = some r := h;clear h;have H' := Aside0.mk H;clear H
 go_enter Tryz.func50, Tryz.ntmps50
 go_wp2
 go_loopg [5] k (fun kq v5 w' => ∃ (x5_1 : Int), v5 = .int .i64 x5_1 ∧ Aside0 (qY.l0 kq l0 a1 x5_1 = some r) ∧ Aside0 (kq ≤ k) ∧ qE w w')
 case atStart => exact ⟨(0), (by first | rfl | (simp; done) | (simp [*]; done)), H', ⟨Nat.le_refl _⟩, by repeat (first | exact qE.refl _ | apply qE.step)⟩
 case round =>
  clear H'
  (try clear p2)
  obtain ⟨x5_1, rfl, HA, HK1, ⟨m1, rfl⟩⟩ := hrel
  cases gk with
  | zero => exact absurd HA.out (by simp [qY.l0])
  | succ k1 =>
   have H := HA.out;clear HA;simp only [qY.l0] at H
   by_cases c3 : x5_1 < (l0.length : Int)
   · rw [if_pos c3] at H
     have c3b0 : decide (x5_1 < (l0.length : Int)) = true := decide_eq_true c3;clear c3
     by_cases c4 : 0 ≤ x5_1
     · rw [if_pos c4] at H
       have c4b0 : decide (0 ≤ x5_1) = true := decide_eq_true c4;clear c4
       by_cases c5 : ((qq l0 x5_1).f0).toList = a1.toList
       · rw [if_pos c5] at H
         have c5b0 : (((qq l0 x5_1).f0).toList == a1.toList) = true := beq_iff_eq.mpr c5;have c5b1 : (((qq l0 x5_1).f0).toList != a1.toList) = false := bne_eq_false_iff_eq.mpr c5;clear c5;obtain rfl := Option.some.inj H;have p209 : 0 ≤ (x5_1 : Int) := of_decide_eq_true (by first | (with_reducible assumption) | assumption);have q209 : x5_1 < (l0.length : Int) := of_decide_eq_true (by first | (with_reducible assumption) | assumption);obtain ⟨ad209, e209, hx209_0, hx209_1, hx209_2⟩ := zQ HR0.out x5_1 p209 q209;cases e209;replace p209 := eq_true p209;replace q209 := eq_true q209;go_wp2
         go_ret
         exact ⟨by first | rfl | (simp; done) | (simp [*]; done), by repeat (first | exact qE.refl _ | apply qE.step)⟩
       · rw [if_neg c5] at H
         have c5b0 : (((qq l0 x5_1).f0).toList == a1.toList) = false := beq_eq_false_iff_ne.mpr c5;have c5b1 : (((qq l0 x5_1).f0).toList != a1.toList) = true := bne_iff_ne.mpr c5;have H' := Aside0.mk H;clear H;have p209 : 0 ≤ (x5_1 : Int) := of_decide_eq_true (by first | (with_reducible assumption) | assumption);have q209 : x5_1 < (l0.length : Int) := of_decide_eq_true (by first | (with_reducible assumption) | assumption);obtain ⟨ad209, e209, hx209_0, hx209_1, hx209_2⟩ := zQ HR0.out x5_1 p209 q209;cases e209;replace p209 := eq_true p209;replace q209 := eq_true q209;go_wp2
         go_roundg k1
         case measure => have := HK1.out; omega
         case rel => exact ⟨(wrap64 (x5_1 + 1)), (by first | rfl | (simp; done) | (simp [*]; done)), H', ⟨by have := HK1.out; omega⟩, by repeat (first | exact qE.refl _ | apply qE.step)⟩
     · rw [if_neg c4] at H
       exact absurd H (by simp)
   · rw [if_neg c3] at H
     have c3b0 : decide (x5_1 < (l0.length : Int)) = false := decide_eq_false c3;clear c3;obtain rfl := Option.some.inj H;go_wp2
     go_ret
     exact ⟨by first | rfl | (simp; done) | (simp [*]; done), by repeat (first | exact qE.refl _ | apply qE.step)⟩
end Go.Proofs.YtggbhdcgfnjogaaGreatDoor.PPc

