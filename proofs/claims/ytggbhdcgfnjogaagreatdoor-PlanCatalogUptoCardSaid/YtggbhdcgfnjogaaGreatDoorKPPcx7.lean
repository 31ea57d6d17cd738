import Derived.Test.YtggbhdcgfnjogaaGreatDoorKPPcx0
namespace Go.Proofs.YtggbhdcgfnjogaaGreatDoor.PPc
open Go.RowKit Go.Proofs.YtggbhdcgfnjogaaGreatDoorW.PrintWords Go.Proofs.YtggbhdcgfnjogaaGreatDoorW.PrintLast Go.Proofs.YtggbhdcgfnjogaaGreatDoorW.PrintMore
set_option linter.unusedVariables false
set_option linter.unusedSimpArgs false
mutual
def qw.j0 : Nat → ByteArray → Int → Int → Bool → Option (Int × Int × Int)
 | 0, _, _, _, _ => none
 | k + 1, x0, x1, x4, x16 => if x16 = true then (some (0, x1, 10)) else (qw.l0 k x0 x1 x4 0)
def qw.l0 : Nat → ByteArray → Int → Int → Int → Option (Int × Int × Int)
 | 0, _, _, _, _ => none
 | k + 1, x0, x1, x4, x18 => if x18 < 10 then (if (wrap64 (x1 + x18)) = (x0.size : Int) then (some (0, x1, 11)) else (if 0 ≤ (wrap64 (x1 + x18)) then (if (wrap64 (x1 + x18)) < (x0.size : Int) then (if x18 = 9 then (qw.j2 k x0 x1 x4 x18 (bt x0 (wrap64 (x1 + x18))) x18 (decide ((bt x0 (wrap64 (x1 + x18))) > 1))) else (qw.j2 k x0 x1 x4 x18 (bt x0 (wrap64 (x1 + x18))) x18 false)) else (none)) else (none))) else (some (0, x1, 12))
def qw.j2 : Nat → ByteArray → Int → Int → Int → Int → Int → Bool → Option (Int × Int × Int)
 | 0, _, _, _, _, _, _, _ => none
 | k + 1, x0, x1, x4, x7, x8, x18, x38 => if x38 = true then (some (0, x1, 12)) else (if 0 ≤ (wrap64 (7 * x7)) then (if x8 < 128 then (if x8 = 0 then (if x7 > 0 then (some (0, x1, 13)) else (some (Go.bits .or .u64 x4 (shl .u64 (IntKind.u64.wrap (Go.bits .and .u8 x8 127)) (wrap64 (7 * x7))), wrap64 ((wrap64 (x1 + x7)) + 1), 0))) else (some (Go.bits .or .u64 x4 (shl .u64 (IntKind.u64.wrap (Go.bits .and .u8 x8 127)) (wrap64 (7 * x7))), wrap64 ((wrap64 (x1 + x7)) + 1), 0))) else (qw.l0 k x0 x1 (Go.bits .or .u64 x4 (shl .u64 (IntKind.u64.wrap (Go.bits .and .u8 x8 127)) (wrap64 (7 * x7)))) (wrap64 (x18 + 1)))) else (none))
end
def qw.f (k : Nat) (a0 : ByteArray) (a1 : Int) : Option (Int × Int × Int) := if a1 < 0 then (qw.j0 k a0 a1 0 true) else (qw.j0 k a0 a1 0 (decide (a1 > (a0.size : Int))))
set_option maxHeartbeats 8000000 in
set_option maxRecDepth 100000 in
theorem qw.calls (k : Nat) (a0 : ByteArray) (a1 : Int) (r1 : Int) (r2 : Int) (r3 : Int) (w : World) (h : qw.f k a0 a1 = some (r1, r2, r3)) :
 Calls Tryz.prog 22 #[.string a0, .int .i64 a1] w fun e w' => e = .returned (.tuple #[.int .u64 r1, .int .i64 r2, .int .i64 r3]) ∧ qE w w' := by
 have H : (if a1 < 0 then (qw.j0 k a0 a1 0 true) else (qw.j0 k a0 a1 0 (decide (a1 > (a0.size : Int))))) = some (r1, r2, r3) := h;clear h;have HC3 := Aside0.mk H;clear H
 go_enter Tryz.func22, Tryz.ntmps22
 go_upto_region 1 with (fail)
 go_cut [16] (fun v16 wc => ∃ (kq : Nat) (x16_2 : Bool), v16 = .bool x16_2 ∧ Aside0 (qw.j0 kq a0 a1 0 x16_2 = some (r1, r2, r3)) ∧ Aside0 (kq ≤ k) ∧ qE w wc)
 case first =>
  have H := HC3.out;clear HC3
  by_cases c4 : a1 < 0
  · rw [if_pos c4] at H
    have c4b0 : decide (a1 < 0) = true := decide_eq_true c4;clear c4
    (first | rw [c4b0] | (simp only [qS, qV]; rw [c4b0]) | skip)
    have H' := Aside0.mk H;clear H;go_wp2;go_meet
    case rel => exact ⟨_, (true), (by first | rfl | (simp; done) | (simp [*]; done)), H', ⟨by first | omega | exact Nat.le_refl _⟩, by repeat (first | exact qE.refl _ | apply qE.step)⟩
  · rw [if_neg c4] at H
    have c4b0 : decide (a1 < 0) = false := decide_eq_false c4;clear c4
    (first | rw [c4b0] | (simp only [qS, qV]; rw [c4b0]) | skip)
    have H' := Aside0.mk H;clear H;go_wp2;go_meet
    case rel => exact ⟨_, (decide (a1 > (a0.size : Int))), (by first | rfl | (simp; done) | (simp [*]; done)), H', ⟨by first | omega | exact Nat.le_refl _⟩, by repeat (first | exact qE.refl _ | apply qE.step)⟩
 case rest =>
  clear HC3
  (try clear c2); (try clear p2); (try clear c4); (try clear c4b0)
  obtain ⟨kq, x16_2, rfl, HA, HJ2, ⟨mc2, rfl⟩⟩ := hcut
  cases kq with
  | zero => exact absurd HA.out (by simp [qw.j0])
  | succ kj2 =>
   have H := HA.out;clear HA;simp only [qw.j0] at H
   by_cases c5 : x16_2 = true
   · subst c5
     have H1 : (some (0, a1, 10)) = some (r1, r2, r3) := by rw [if_pos rfl] at H; exact H
     clear H;have H := H1;clear H1;simp only [Option.some.injEq, Prod.mk.injEq] at H;obtain ⟨rfl, rfl, rfl⟩ := H;go_wp2
     go_ret3
     exact ⟨by first | rfl | (simp; done) | (simp [*]; done), by repeat (first | exact qE.refl _ | apply qE.step)⟩
   · replace c5 := Bool.eq_false_iff.mpr c5
     subst c5
     have H1 : (qw.l0 kj2 a0 a1 0 0) = some (r1, r2, r3) := by rw [if_neg (show ¬ (false = true) by decide)] at H; exact H
     clear H;have H := H1;clear H1;have H' := Aside0.mk H;clear H;go_wp2
     go_loopg [4, 18] kj2 (fun kq v4 v18 w' => ∃ (x4_2 : Int) (x18_2 : Int), v4 = .int .u64 x4_2 ∧ v18 = .int .i64 x18_2 ∧ Aside0 (qw.l0 kq a0 a1 x4_2 x18_2 = some (r1, r2, r3)) ∧ Aside0 (kq ≤ kj2) ∧ qE w w')
     case atStart => exact ⟨(0), (0), (by first | rfl | (simp; done) | (simp [*]; done)), (by first | rfl | (simp; done) | (simp [*]; done)), H', ⟨Nat.le_refl _⟩, by repeat (first | exact qE.refl _ | apply qE.step)⟩
     case round =>
      clear H'
      (try clear c2); (try clear p2); (try clear c4); (try clear c4b0); (try clear c5); (try clear p2)
      obtain ⟨x4_2, x18_2, rfl, rfl, HA, HK2, ⟨m2, rfl⟩⟩ := hrel
      cases gk with
      | zero => exact absurd HA.out (by simp [qw.l0])
      | succ k2 =>
       have H := HA.out;clear HA;simp only [qw.l0] at H
       by_cases c6 : x18_2 < 10
       · rw [if_pos c6] at H
         have c6b0 : decide (x18_2 < 10) = true := decide_eq_true c6;clear c6
         by_cases c7 : (wrap64 (a1 + x18_2)) = (a0.size : Int)
         · rw [if_pos c7] at H
           have c7b0 : ((wrap64 (a1 + x18_2)) == (a0.size : Int)) = true := beq_iff_eq.mpr c7;have c7b1 : ((wrap64 (a1 + x18_2)) != (a0.size : Int)) = false := bne_eq_false_iff_eq.mpr c7;clear c7;simp only [Option.some.injEq, Prod.mk.injEq] at H;obtain ⟨rfl, rfl, rfl⟩ := H;go_wp2
           go_ret3
           exact ⟨by first | rfl | (simp; done) | (simp [*]; done), by repeat (first | exact qE.refl _ | apply qE.step)⟩
         · rw [if_neg c7] at H
           have c7b0 : ((wrap64 (a1 + x18_2)) == (a0.size : Int)) = false := beq_eq_false_iff_ne.mpr c7;have c7b1 : ((wrap64 (a1 + x18_2)) != (a0.size : Int)) = true := bne_iff_ne.mpr c7;obtain ⟨ji8, hji8⟩ : ∃ j_ : Int, (wrap64 (a1 + x18_2)) = j_ := ⟨_, rfl⟩
           replace H : (if 0 ≤ (ji8) then (if (ji8) < (a0.size : Int) then (if x18_2 = 9 then (qw.j2 k2 a0 a1 x4_2 x18_2 (bt a0 (ji8)) x18_2 (decide ((bt a0 (ji8)) > 1))) else (qw.j2 k2 a0 a1 x4_2 x18_2 (bt a0 (ji8)) x18_2 false)) else (none)) else (none)) = some (r1, r2, r3) := by first | (rw [hji8] at H; exact H) | (simp only [hji8] at H ⊢; exact H)
           (try rw [hji8] at c7b0)
           (try rw [hji8] at c7b1)
           have hji8w : (IntKind.i64.wrap (a1 + x18_2)) = ji8 := (qS _).trans hji8
           by_cases c9 : 0 ≤ (ji8)
           · rw [if_pos c9] at H
             have c9b0 : decide (0 ≤ (ji8)) = true := decide_eq_true c9;clear c9
             by_cases c10 : (ji8) < (a0.size : Int)
             · rw [if_pos c10] at H
               have c10b0 : decide ((ji8) < (a0.size : Int)) = true := decide_eq_true c10;clear c10;have HC12 := Aside0.mk H;clear H;have p11 : 0 ≤ ((ji8) : Int) := of_decide_eq_true (by first | (with_reducible assumption) | assumption);have q11 : (ji8) < (a0.size : Int) := of_decide_eq_true (by first | (with_reducible assumption) | assumption);have hx11 := zH a0 (ji8);replace p11 := eq_true p11;replace q11 := eq_true q11
               go_upto_region 9 with (fail)
               go_cut [38] (fun v38 wc => ∃ (kq : Nat) (x38_11 : Bool), v38 = .bool x38_11 ∧ Aside0 (qw.j2 kq a0 a1 x4_2 x18_2 (bt a0 (ji8)) x18_2 x38_11 = some (r1, r2, r3)) ∧ Aside0 (kq ≤ k2) ∧ qE w wc)
               case first =>
                have H := HC12.out;clear HC12
                by_cases c13 : x18_2 = 9
                · rw [if_pos c13] at H
                  have c13b0 : (x18_2 == 9) = true := beq_iff_eq.mpr c13;have c13b1 : (x18_2 != 9) = false := bne_eq_false_iff_eq.mpr c13;clear c13
                  (first | rw [c13b0] | (simp only [qS, qV]; rw [c13b0]) | skip)
                  have H' := Aside0.mk H;clear H;go_wp2;go_meet
                  case rel => exact ⟨_, (decide ((bt a0 (ji8)) > 1)), (by first | rfl | (simp; done) | (simp only [← hji8] <;> (first | rfl | simp)) | (simp [*]; done)), H', ⟨by have := HJ2.out; have := HK2.out; first | omega | exact Nat.le_refl _⟩, by repeat (first | exact qE.refl _ | apply qE.step)⟩
                · rw [if_neg c13] at H
                  have c13b0 : (x18_2 == 9) = false := beq_eq_false_iff_ne.mpr c13;have c13b1 : (x18_2 != 9) = true := bne_iff_ne.mpr c13
                  (first | rw [c13b0] | (simp only [qS, qV]; rw [c13b0]) | skip)
                  have H' := Aside0.mk H;clear H;go_wp2;go_meet
                  case rel => exact ⟨_, (false), (by first | rfl | (simp; done) | (simp [*]; done)), H', ⟨by have := HJ2.out; have := HK2.out; first | omega | exact Nat.le_refl _⟩, by repeat (first | exact qE.refl _ | apply qE.step)⟩
               case rest =>
                clear HC12
                (try clear c1); (try clear p1); (try clear q1); (try clear hx1); (try clear c2); (try clear p2); (try clear c4); (try clear c4b0); (try clear c5); (try clear c6); (try clear c6b0); (try clear p6); (try clear c7); (try clear c7b0); (try clear c7b1); (try clear c9); (try clear c9b0); (try clear c10); (try clear c10b0); (try clear p11); (try clear q11); (try clear hx11); (try clear c13); (try clear c13b0); (try clear c13b1); (try clear p11); (try clear p2); (try clear q11)
                obtain ⟨kq, x38_11, rfl, HA, HJ11, ⟨mc11, rfl⟩⟩ := hcut
                cases kq with
                | zero => exact absurd HA.out (by simp [qw.j2])
                | succ kj11 =>
                 have H := HA.out;clear HA;simp only [qw.j2] at H
                 by_cases c14 : x38_11 = true
                 · subst c14
                   have H1 : (some (0, a1, 12)) = some (r1, r2, r3) := by rw [if_pos rfl] at H; exact H
                   clear H;have H := H1;clear H1;simp only [Option.some.injEq, Prod.mk.injEq] at H;obtain ⟨rfl, rfl, rfl⟩ := H;go_wp2
                   go_ret3
                   exact ⟨by first | rfl | (simp; done) | (simp only [← hji8] <;> (first | rfl | simp)) | (simp [*]; done), by repeat (first | exact qE.refl _ | apply qE.step)⟩
                 · replace c14 := Bool.eq_false_iff.mpr c14
                   subst c14
                   have H1 : (if 0 ≤ (wrap64 (7 * x18_2)) then (if (bt a0 (ji8)) < 128 then (if (bt a0 (ji8)) = 0 then (if x18_2 > 0 then (some (0, a1, 13)) else (some (Go.bits .or .u64 x4_2 (shl .u64 (IntKind.u64.wrap (Go.bits .and .u8 (bt a0 (ji8)) 127)) (wrap64 (7 * x18_2))), wrap64 ((wrap64 (a1 + x18_2)) + 1), 0))) else (some (Go.bits .or .u64 x4_2 (shl .u64 (IntKind.u64.wrap (Go.bits .and .u8 (bt a0 (ji8)) 127)) (wrap64 (7 * x18_2))), wrap64 ((wrap64 (a1 + x18_2)) + 1), 0))) else (qw.l0 kj11 a0 a1 (Go.bits .or .u64 x4_2 (shl .u64 (IntKind.u64.wrap (Go.bits .and .u8 (bt a0 (ji8)) 127)) (wrap64 (7 * x18_2)))) (wrap64 (x18_2 + 1)))) else (none)) = some (r1, r2, r3) := by rw [if_neg (show ¬ (false = true) by decide)] at H; exact H
                   clear H;have H := H1;clear H1;obtain ⟨ji15, hji15⟩ : ∃ j_ : Int, (wrap64 (7 * x18_2)) = j_ := ⟨_, rfl⟩
                   replace H : (if 0 ≤ (ji15) then (if (bt a0 (ji8)) < 128 then (if (bt a0 (ji8)) = 0 then (if x18_2 > 0 then (some (0, a1, 13)) else (some (Go.bits .or .u64 x4_2 (shl .u64 (IntKind.u64.wrap (Go.bits .and .u8 (bt a0 (ji8)) 127)) (ji15)), wrap64 ((wrap64 (a1 + x18_2)) + 1), 0))) else (some (Go.bits .or .u64 x4_2 (shl .u64 (IntKind.u64.wrap (Go.bits .and .u8 (bt a0 (ji8)) 127)) (ji15)), wrap64 ((wrap64 (a1 + x18_2)) + 1), 0))) else (qw.l0 kj11 a0 a1 (Go.bits .or .u64 x4_2 (shl .u64 (IntKind.u64.wrap (Go.bits .and .u8 (bt a0 (ji8)) 127)) (ji15))) (wrap64 (x18_2 + 1)))) else (none)) = some (r1, r2, r3) := by first | (rw [hji15] at H; exact H) | (simp only [hji15] at H ⊢; exact H)
                   have hji15w : (IntKind.i64.wrap (7 * x18_2)) = ji15 := (qS _).trans hji15
                   by_cases c16 : 0 ≤ (ji15)
                   · rw [if_pos c16] at H
                     have c16b0 := eq_true c16;have c16b1 : decide (0 ≤ (ji15)) = true := decide_eq_true c16;clear c16;obtain ⟨ji17, hji17⟩ : ∃ j_ : Int, (shl .u64 (IntKind.u64.wrap (Go.bits .and .u8 (bt a0 (ji8)) 127)) (ji15)) = j_ := ⟨_, rfl⟩
                     replace H : (if (bt a0 (ji8)) < 128 then (if (bt a0 (ji8)) = 0 then (if x18_2 > 0 then (some (0, a1, 13)) else (some (Go.bits .or .u64 x4_2 (ji17), wrap64 ((wrap64 (a1 + x18_2)) + 1), 0))) else (some (Go.bits .or .u64 x4_2 (ji17), wrap64 ((wrap64 (a1 + x18_2)) + 1), 0))) else (qw.l0 kj11 a0 a1 (Go.bits .or .u64 x4_2 (ji17)) (wrap64 (x18_2 + 1)))) = some (r1, r2, r3) := by first | (rw [hji17] at H; exact H) | (simp only [hji17] at H ⊢; exact H)
                     have hji17_ : (IntKind.u64.wrap ((IntKind.u64.wrap (Go.bits .and .u8 (bt a0 (ji8)) 127)) * 2 ^ min (ji15).toNat 64)) = ji17 := hji17;have hji17z : (ji15) ≤ 64 → (IntKind.u64.wrap ((IntKind.u64.wrap (Go.bits .and .u8 (bt a0 (ji8)) 127)) * 2 ^ (ji15).toNat)) = ji17 := shl_small hji17
                     by_cases c18 : (bt a0 (ji8)) < 128
                     · rw [if_pos c18] at H
                       have c18b0 : decide ((bt a0 (ji8)) < 128) = true := decide_eq_true c18;clear c18
                       by_cases c19 : (bt a0 (ji8)) = 0
                       · rw [if_pos c19] at H
                         have c19b0 : ((bt a0 (ji8)) == 0) = true := beq_iff_eq.mpr c19;have c19b1 : ((bt a0 (ji8)) != 0) = false := bne_eq_false_iff_eq.mpr c19;clear c19
                         by_cases c20 : x18_2 > 0
                         · rw [if_pos c20] at H
                           have c20b0 : decide (0 < x18_2) = true := decide_eq_true c20;clear c20;simp only [Option.some.injEq, Prod.mk.injEq] at H;obtain ⟨rfl, rfl, rfl⟩ := H;go_wp2
                           go_ret3
                           exact ⟨by first | rfl | (simp; done) | (simp only [← hji8, ← hji15, ← hji17] <;> (first | rfl | simp)) | (simp [*]; done), by repeat (first | exact qE.refl _ | apply qE.step)⟩
                         · rw [if_neg c20] at H
                           have c20b0 : decide (0 < x18_2) = false := decide_eq_false c20;clear c20;simp only [Option.some.injEq, Prod.mk.injEq] at H;obtain ⟨rfl, rfl, rfl⟩ := H;go_wp2
                           go_ret3
                           exact ⟨by first | rfl | (simp; done) | (simp only [← hji8, ← hji15, ← hji17] <;> (first | rfl | simp)) | (simp [*]; done), by repeat (first | exact qE.refl _ | apply qE.step)⟩
                       · rw [if_neg c19] at H
                         have c19b0 : ((bt a0 (ji8)) == 0) = false := beq_eq_false_iff_ne.mpr c19;have c19b1 : ((bt a0 (ji8)) != 0) = true := bne_iff_ne.mpr c19;simp only [Option.some.injEq, Prod.mk.injEq] at H;obtain ⟨rfl, rfl, rfl⟩ := H;go_wp2
                         go_ret3
                         exact ⟨by first | rfl | (simp; done) | (simp only [← hji8, ← hji15, ← hji17] <;> (first | rfl | simp)) | (simp [*]; done), by repeat (first | exact qE.refl _ | apply qE.step)⟩
                     · rw [if_neg c18] at H
                       have c18b0 : decide ((bt a0 (ji8)) < 128) = false := decide_eq_false c18;clear c18;have H' := Aside0.mk H;clear H;go_wp2
                       go_roundg kj11
                       case measure => have := HJ2.out; have := HK2.out; have := HJ11.out; omega
                       case rel => exact ⟨(Go.bits .or .u64 x4_2 (ji17)), (wrap64 (x18_2 + 1)), (by first | rfl | (simp; done) | (simp only [← hji17] <;> (first | rfl | simp)) | (simp [*]; done)), (by first | rfl | (simp; done) | (simp [*]; done)), H', ⟨by have := HJ2.out; have := HK2.out; have := HJ11.out; omega⟩, by repeat (first | exact qE.refl _ | apply qE.step)⟩
                   · rw [if_neg c16] at H
                     exact absurd H (by simp)
             · rw [if_neg c10] at H
               exact absurd H (by simp)
           · rw [if_neg c9] at H
             exact absurd H (by simp)
       · rw [if_neg c6] at H
         have c6b0 : decide (x18_2 < 10) = false := decide_eq_false c6;clear c6;simp only [Option.some.injEq, Prod.mk.injEq] at H;obtain ⟨rfl, rfl, rfl⟩ := H;go_wp2
         go_ret3
         exact ⟨by first | rfl | (simp; done) | (simp [*]; done), by repeat (first | exact qE.refl _ | apply qE.step)⟩
def xd.f (k : Nat) (a0 : ByteArray) (a1 : Int) (a2 : Int) : Option (ByteArray × Int × Int) := (qw.f k a0 a1).bind fun bt149 => (if bt149.2.2 = 0 then (if bt149.1 > a2 then (some ((⟨#[]⟩ : ByteArray), a1, 4)) else (if bt149.1 > (IntKind.u64.wrap (wrap64 ((a0.size : Int) - bt149.2.1))) then (some ((⟨#[]⟩ : ByteArray), a1, 11)) else (if 0 ≤ bt149.2.1 then (if bt149.2.1 ≤ (wrap64 (bt149.2.1 + (wrap64 (bt149.1)))) then (if (wrap64 (bt149.2.1 + (wrap64 (bt149.1)))) ≤ (a0.size : Int) then (some (a0.extract (bt149.2.1 : Int).toNat ((wrap64 (bt149.2.1 + (wrap64 (bt149.1)))) : Int).toNat, wrap64 (bt149.2.1 + (wrap64 (bt149.1))), 0)) else (none)) else (none)) else (none)))) else (some ((⟨#[]⟩ : ByteArray), a1, bt149.2.2)))
set_option maxHeartbeats 8000000 in
set_option maxRecDepth 100000 in
theorem xd.calls (k : Nat) (a0 : ByteArray) (a1 : Int) (a2 : Int) (r1 : ByteArray) (r2 : Int) (r3 : Int) (w : World) (h : xd.f k a0 a1 a2 = some (r1, r2, r3)) :
 Calls Tryz.prog 37 #[.string a0, .int .i64 a1, .int .u64 a2] w fun e w' => e = .returned (.tuple #[.string r1, .int .i64 r2, .int .i64 r3]) ∧ qE w w' := by
 have H : ((qw.f k a0 a1).bind fun bt149 => (if bt149.2.2 = 0 then (if bt149.1 > a2 then (some ((⟨#[]⟩ : ByteArray), a1, 4)) else (if bt149.1 > (IntKind.u64.wrap (wrap64 ((a0.size : Int) - bt149.2.1))) then (some ((⟨#[]⟩ : ByteArray), a1, 11)) else (if 0 ≤ bt149.2.1 then (if bt149.2.1 ≤ (wrap64 (bt149.2.1 + (wrap64 (bt149.1)))) then (if (wrap64 (bt149.2.1 + (wrap64 (bt149.1)))) ≤ (a0.size : Int) then (some (a0.extract (bt149.2.1 : Int).toNat ((wrap64 (bt149.2.1 + (wrap64 (bt149.1)))) : Int).toNat, wrap64 (bt149.2.1 + (wrap64 (bt149.1))), 0)) else (none)) else (none)) else (none)))) else (some ((⟨#[]⟩ : ByteArray), a1, bt149.2.2)))) = some (r1, r2, r3) := h;clear h;replace H := Option.bind_eq_some_iff.mp H;obtain ⟨⟨t149, t150, t151⟩, A40, H⟩ := H;replace H : (if t151 = 0 then (if t149 > a2 then (some ((⟨#[]⟩ : ByteArray), a1, 4)) else (if t149 > (IntKind.u64.wrap (wrap64 ((a0.size : Int) - t150))) then (some ((⟨#[]⟩ : ByteArray), a1, 11)) else (if 0 ≤ t150 then (if t150 ≤ (wrap64 (t150 + (wrap64 (t149)))) then (if (wrap64 (t150 + (wrap64 (t149)))) ≤ (a0.size : Int) then (some (a0.extract (t150 : Int).toNat ((wrap64 (t150 + (wrap64 (t149)))) : Int).toNat, wrap64 (t150 + (wrap64 (t149))), 0)) else (none)) else (none)) else (none)))) else (some ((⟨#[]⟩ : ByteArray), a1, t151))) = some (r1, r2, r3) := H;have A4 := Aside0.mk A40;clear A40
 by_cases c5 : t151 = 0
 · rw [if_pos c5] at H
   have c5b0 : (t151 == 0) = true := beq_iff_eq.mpr c5;have c5b1 : (t151 != 0) = false := bne_eq_false_iff_eq.mpr c5;clear c5
   by_cases c6 : t149 > a2
   · rw [if_pos c6] at H
     have c6b0 : decide (a2 < t149) = true := decide_eq_true c6;clear c6;simp only [Option.some.injEq, Prod.mk.injEq] at H;obtain ⟨rfl, rfl, rfl⟩ := H
     go_enter Tryz.func37, Tryz.ntmps37
     go_wp2_with (first | ((with_reducible refine qC (f := 22) rfl ?_); refine z6 (some 16) rfl rfl Tryz.func22 (by kernel_rfl) rfl #[.string a0, .int .i64 a1] rfl (by (try simp only [List.map_toArray, List.map_cons, List.map_nil]); first | done | rfl | (simp only [List.length_drop, List.length_take]; rfl)) ?_; (with_reducible refine (qw.calls k a0 a1 t149 t150 t151 _ A4.out).mono ?_); rintro e w' ⟨rfl, ⟨nd, rfl⟩⟩; refine ⟨_, rfl, ?_⟩))
     go_ret3
     exact ⟨by first | rfl | (simp; done) | (simp [*]; done), by repeat (first | exact qE.refl _ | apply qE.step)⟩
   · rw [if_neg c6] at H
     have c6b0 : decide (a2 < t149) = false := decide_eq_false c6;clear c6
     by_cases c7 : t149 > (IntKind.u64.wrap (wrap64 ((a0.size : Int) - t150)))
     · rw [if_pos c7] at H
       have c7b0 : decide ((IntKind.u64.wrap (wrap64 ((a0.size : Int) - t150))) < t149) = true := decide_eq_true c7;clear c7;simp only [Option.some.injEq, Prod.mk.injEq] at H;obtain ⟨rfl, rfl, rfl⟩ := H
       go_enter Tryz.func37, Tryz.ntmps37
       go_wp2_with (first | ((with_reducible refine qC (f := 22) rfl ?_); refine z6 (some 16) rfl rfl Tryz.func22 (by kernel_rfl) rfl #[.string a0, .int .i64 a1] rfl (by (try simp only [List.map_toArray, List.map_cons, List.map_nil]); first | done | rfl | (simp only [List.length_drop, List.length_take]; rfl)) ?_; (with_reducible refine (qw.calls k a0 a1 t149 t150 t151 _ A4.out).mono ?_); rintro e w' ⟨rfl, ⟨nd, rfl⟩⟩; refine ⟨_, rfl, ?_⟩))
       go_ret3
       exact ⟨by first | rfl | (simp; done) | (simp [*]; done), by repeat (first | exact qE.refl _ | apply qE.step)⟩
     · rw [if_neg c7] at H
       have c7b0 : decide ((IntKind.u64.wrap (wrap64 ((a0.size : Int) - t150))) < t149) = false := decide_eq_false c7;clear c7
       by_cases c8 : 0 ≤ t150
       · rw [if_pos c8] at H
         have c8b0 := eq_true c8;have c8b1 : decide (0 ≤ t150) = true := decide_eq_true c8;clear c8
         by_cases c9 : t150 ≤ (wrap64 (t150 + (wrap64 (t149))))
         · rw [if_pos c9] at H
           have c9b0 := eq_true c9;have c9b1 : decide (t150 ≤ (wrap64 (t150 + (wrap64 (t149))))) = true := decide_eq_true c9
           by_cases c10 : (wrap64 (t150 + (wrap64 (t149)))) ≤ (a0.size : Int)
           · rw [if_pos c10] at H
             have c10b0 := eq_true c10;have c10b1 : decide ((wrap64 (t150 + (wrap64 (t149)))) ≤ (a0.size : Int)) = true := decide_eq_true c10;simp only [Option.some.injEq, Prod.mk.injEq] at H;obtain ⟨rfl, rfl, rfl⟩ := H
             go_enter Tryz.func37, Tryz.ntmps37
             go_wp2_with (first | ((with_reducible refine qC (f := 22) rfl ?_); refine z6 (some 16) rfl rfl Tryz.func22 (by kernel_rfl) rfl #[.string a0, .int .i64 a1] rfl (by (try simp only [List.map_toArray, List.map_cons, List.map_nil]); first | done | rfl | (simp only [List.length_drop, List.length_take]; rfl)) ?_; (with_reducible refine (qw.calls k a0 a1 t149 t150 t151 _ A4.out).mono ?_); rintro e w' ⟨rfl, ⟨nd, rfl⟩⟩; refine ⟨_, rfl, ?_⟩))
             go_ret3
             exact ⟨by first | rfl | (simp; done) | (simp [*]; done), by repeat (first | exact qE.refl _ | apply qE.step)⟩
           · rw [if_neg c10] at H
             exact absurd H (by simp)
         · rw [if_neg c9] at H
           exact absurd H (by simp)
       · rw [if_neg c8] at H
         exact absurd H (by simp)
 · rw [if_neg c5] at H
   have c5b0 : (t151 == 0) = false := beq_eq_false_iff_ne.mpr c5;have c5b1 : (t151 != 0) = true := bne_iff_ne.mpr c5;simp only [Option.some.injEq, Prod.mk.injEq] at H;obtain ⟨rfl, rfl, rfl⟩ := H
   go_enter Tryz.func37, Tryz.ntmps37
   go_wp2_with (first | ((with_reducible refine qC (f := 22) rfl ?_); refine z6 (some 16) rfl rfl Tryz.func22 (by kernel_rfl) rfl #[.string a0, .int .i64 a1] rfl (by (try simp only [List.map_toArray, List.map_cons, List.map_nil]); first | done | rfl | (simp only [List.length_drop, List.length_take]; rfl)) ?_; (with_reducible refine (qw.calls k a0 a1 t149 t150 t151 _ A4.out).mono ?_); rintro e w' ⟨rfl, ⟨nd, rfl⟩⟩; refine ⟨_, rfl, ?_⟩))
   go_ret3
   exact ⟨by first | rfl | (simp; done) | (simp [*]; done), by repeat (first | exact qE.refl _ | apply qE.step)⟩
def xk.f (k : Nat) (a0 : ByteArray) (a1 : Int) : Option (ByteArray × Int × Int) := (xd.f k a0 a1 1048576).bind fun bt152 => (some (bt152.1, bt152.2.1, bt152.2.2))
set_option maxHeartbeats 8000000 in
set_option maxRecDepth 100000 in
theorem xk.calls (k : Nat) (a0 : ByteArray) (a1 : Int) (r1 : ByteArray) (r2 : Int) (r3 : Int) (w : World) (h : xk.f k a0 a1 = some (r1, r2, r3)) :
 Calls Tryz.prog 23 #[.string a0, .int .i64 a1] w fun e w' => e = .returned (.tuple #[.string r1, .int .i64 r2, .int .i64 r3]) ∧ qE w w' := by
 have H : ((xd.f k a0 a1 1048576).bind fun bt152 => (some (bt152.1, bt152.2.1, bt152.2.2))) = some (r1, r2, r3) := h;clear h;replace H := Option.bind_eq_some_iff.mp H;obtain ⟨⟨t152, t153, t154⟩, A30, H⟩ := H;replace H : (some (t152, t153, t154)) = some (r1, r2, r3) := H;have A3 := Aside0.mk A30;clear A30;simp only [Option.some.injEq, Prod.mk.injEq] at H;obtain ⟨rfl, rfl, rfl⟩ := H
 go_enter Tryz.func23, Tryz.ntmps23
 go_wp2_with (first | ((with_reducible refine qC (f := 37) rfl ?_); refine z6 (some 9) rfl rfl Tryz.func37 (by kernel_rfl) rfl #[.string a0, .int .i64 a1, .int .u64 1048576] rfl (by (try simp only [List.map_toArray, List.map_cons, List.map_nil]); first | done | rfl | (simp only [List.length_drop, List.length_take]; rfl)) ?_; (with_reducible refine (xd.calls k a0 a1 1048576 t152 t153 t154 _ A3.out).mono ?_); rintro e w' ⟨rfl, ⟨nd, rfl⟩⟩; refine ⟨_, rfl, ?_⟩))
 go_ret3
 exact ⟨by first | rfl | (simp; done) | (simp [*]; done), by repeat (first | exact qE.refl _ | apply qE.step)⟩
end Go.Proofs.YtggbhdcgfnjogaaGreatDoor.PPc

