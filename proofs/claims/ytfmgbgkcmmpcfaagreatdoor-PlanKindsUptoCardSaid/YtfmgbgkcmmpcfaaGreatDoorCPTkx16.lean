import Derived.Test.YtfmgbgkcmmpcfaaGreatDoorCPTkx0
namespace Go.Proofs.YtfmgbgkcmmpcfaaGreatDoor.PTk
open Go.RowKit Go.Proofs.YtfmgbgkcmmpcfaaGreatDoorW.PrintWords Go.Proofs.YtfmgbgkcmmpcfaaGreatDoorW.PrintLast Go.Proofs.YtfmgbgkcmmpcfaaGreatDoorW.PrintMore
attribute [local go_sem] zp zC
set_option linter.unusedVariables false
set_option linter.unusedSimpArgs false
def xg.f (a0 : Int) : Option (ByteArray) := if a0 = 11 then (some (⟨#[43]⟩ : ByteArray)) else (if a0 = 12 then (some (⟨#[45]⟩ : ByteArray)) else (if a0 = 13 then (some (⟨#[42]⟩ : ByteArray)) else (if a0 = 14 then (some (⟨#[47]⟩ : ByteArray)) else (if a0 = 15 then (some (⟨#[37]⟩ : ByteArray)) else (if a0 = 16 then (some (⟨#[124, 124]⟩ : ByteArray)) else (if a0 = 17 then (some (⟨#[61]⟩ : ByteArray)) else (if a0 = 18 then (some (⟨#[60, 62]⟩ : ByteArray)) else (if a0 = 19 then (some (⟨#[60]⟩ : ByteArray)) else (if a0 = 20 then (some (⟨#[60, 61]⟩ : ByteArray)) else (if a0 = 21 then (some (⟨#[62]⟩ : ByteArray)) else (if a0 = 22 then (some (⟨#[62, 61]⟩ : ByteArray)) else (if a0 = 23 then (some (⟨#[65, 78, 68]⟩ : ByteArray)) else (if a0 = 24 then (some (⟨#[79, 82]⟩ : ByteArray)) else (some (⟨#[76, 73, 75, 69]⟩ : ByteArray)))))))))))))))
set_option maxHeartbeats 8000000 in
set_option maxRecDepth 100000 in
theorem xg.calls (a0 : Int) (r : ByteArray) (w : World) (h : xg.f a0 = some r) :
 Calls Tryz.prog 118 #[.int .i64 a0] w fun e w' => e = .returned (.string r) ∧ qt w w' := by
 have H : (if a0 = 11 then (some (⟨#[43]⟩ : ByteArray)) else (if a0 = 12 then (some (⟨#[45]⟩ : ByteArray)) else (if a0 = 13 then (some (⟨#[42]⟩ : ByteArray)) else (if a0 = 14 then (some (⟨#[47]⟩ : ByteArray)) else (if a0 = 15 then (some (⟨#[37]⟩ : ByteArray)) else (if a0 = 16 then (some (⟨#[124, 124]⟩ : ByteArray)) else (if a0 = 17 then (some (⟨#[61]⟩ : ByteArray)) else (if a0 = 18 then (some (⟨#[60, 62]⟩ : ByteArray)) else (if a0 = 19 then (some (⟨#[60]⟩ : ByteArray)) else (if a0 = 20 then (some (⟨#[60, 61]⟩ : ByteArray)) else (if a0 = 21 then (some (⟨#[62]⟩ : ByteArray)) else (if a0 = 22 then (some (⟨#[62, 61]⟩ : ByteArray)) else (if a0 = 23 then (some (⟨#[65, 78, 68]⟩ : ByteArray)) else (if a0 = 24 then (some (⟨#[79, 82]⟩ : ByteArray)) else (some (⟨#[76, 73, 75, 69]⟩ : ByteArray)))))))))))))))) = some r := h;clear h
 by_cases c2 : a0 = 11
 · rw [if_pos c2] at H
   have a4 : (a0 == 11) = true := beq_iff_eq.mpr c2;have a5 : (a0 != 11) = false := bne_eq_false_iff_eq.mpr c2;clear c2;obtain rfl := Option.some.inj H
   go_enter Tryz.func118, Tryz.ntmps118
   go_wp2
   go_ret
   exact ⟨by first | rfl | (simp; done) | (simp [*]; done), by repeat (first | exact qt.refl _ | apply qt.step)⟩
 · rw [if_neg c2] at H
   have a4 : (a0 == 11) = false := beq_eq_false_iff_ne.mpr c2;have a5 : (a0 != 11) = true := bne_iff_ne.mpr c2
   by_cases c3 : a0 = 12
   · rw [if_pos c3] at H
     have a6 : (a0 == 12) = true := beq_iff_eq.mpr c3;have a7 : (a0 != 12) = false := bne_eq_false_iff_eq.mpr c3;clear c3;obtain rfl := Option.some.inj H
     go_enter Tryz.func118, Tryz.ntmps118
     go_wp2
     go_ret
     exact ⟨by first | rfl | (simp; done) | (simp [*]; done), by repeat (first | exact qt.refl _ | apply qt.step)⟩
   · rw [if_neg c3] at H
     have a6 : (a0 == 12) = false := beq_eq_false_iff_ne.mpr c3;have a7 : (a0 != 12) = true := bne_iff_ne.mpr c3
     by_cases c4 : a0 = 13
     · rw [if_pos c4] at H
       have a8 : (a0 == 13) = true := beq_iff_eq.mpr c4;have a9 : (a0 != 13) = false := bne_eq_false_iff_eq.mpr c4;clear c4;obtain rfl := Option.some.inj H
       go_enter Tryz.func118, Tryz.ntmps118
       go_wp2
       go_ret
       exact ⟨by first | rfl | (simp; done) | (simp [*]; done), by repeat (first | exact qt.refl _ | apply qt.step)⟩
     · rw [if_neg c4] at H
       have a8 : (a0 == 13) = false := beq_eq_false_iff_ne.mpr c4;have a9 : (a0 != 13) = true := bne_iff_ne.mpr c4
       by_cases c5 : a0 = 14
       · rw [if_pos c5] at H
         have ba : (a0 == 14) = true := beq_iff_eq.mpr c5;have bb : (a0 != 14) = false := bne_eq_false_iff_eq.mpr c5;clear c5;obtain rfl := Option.some.inj H
         go_enter Tryz.func118, Tryz.ntmps118
         go_wp2
         go_ret
         exact ⟨by first | rfl | (simp; done) | (simp [*]; done), by repeat (first | exact qt.refl _ | apply qt.step)⟩
       · rw [if_neg c5] at H
         have ba : (a0 == 14) = false := beq_eq_false_iff_ne.mpr c5;have bb : (a0 != 14) = true := bne_iff_ne.mpr c5
         by_cases c6 : a0 = 15
         · rw [if_pos c6] at H
           have bc : (a0 == 15) = true := beq_iff_eq.mpr c6;have bd : (a0 != 15) = false := bne_eq_false_iff_eq.mpr c6;clear c6;obtain rfl := Option.some.inj H
           go_enter Tryz.func118, Tryz.ntmps118
           go_wp2
           go_ret
           exact ⟨by first | rfl | (simp; done) | (simp [*]; done), by repeat (first | exact qt.refl _ | apply qt.step)⟩
         · rw [if_neg c6] at H
           have bc : (a0 == 15) = false := beq_eq_false_iff_ne.mpr c6;have bd : (a0 != 15) = true := bne_iff_ne.mpr c6
           by_cases c7 : a0 = 16
           · rw [if_pos c7] at H
             have bf : (a0 == 16) = true := beq_iff_eq.mpr c7;have bg : (a0 != 16) = false := bne_eq_false_iff_eq.mpr c7;clear c7;obtain rfl := Option.some.inj H
             go_enter Tryz.func118, Tryz.ntmps118
             go_wp2
             go_ret
             exact ⟨by first | rfl | (simp; done) | (simp [*]; done), by repeat (first | exact qt.refl _ | apply qt.step)⟩
           · rw [if_neg c7] at H
             have bf : (a0 == 16) = false := beq_eq_false_iff_ne.mpr c7;have bg : (a0 != 16) = true := bne_iff_ne.mpr c7
             by_cases c8 : a0 = 17
             · rw [if_pos c8] at H
               have bh : (a0 == 17) = true := beq_iff_eq.mpr c8;have bi : (a0 != 17) = false := bne_eq_false_iff_eq.mpr c8;clear c8;obtain rfl := Option.some.inj H
               go_enter Tryz.func118, Tryz.ntmps118
               go_wp2
               go_ret
               exact ⟨by first | rfl | (simp; done) | (simp [*]; done), by repeat (first | exact qt.refl _ | apply qt.step)⟩
             · rw [if_neg c8] at H
               have bh : (a0 == 17) = false := beq_eq_false_iff_ne.mpr c8;have bi : (a0 != 17) = true := bne_iff_ne.mpr c8
               by_cases c9 : a0 = 18
               · rw [if_pos c9] at H
                 have bj : (a0 == 18) = true := beq_iff_eq.mpr c9;have bk : (a0 != 18) = false := bne_eq_false_iff_eq.mpr c9;clear c9;obtain rfl := Option.some.inj H
                 go_enter Tryz.func118, Tryz.ntmps118
                 go_wp2
                 go_ret
                 exact ⟨by first | rfl | (simp; done) | (simp [*]; done), by repeat (first | exact qt.refl _ | apply qt.step)⟩
               · rw [if_neg c9] at H
                 have bj : (a0 == 18) = false := beq_eq_false_iff_ne.mpr c9;have bk : (a0 != 18) = true := bne_iff_ne.mpr c9
                 by_cases ab : a0 = 19
                 · rw [if_pos ab] at H
                   have an : (a0 == 19) = true := beq_iff_eq.mpr ab;have ao : (a0 != 19) = false := bne_eq_false_iff_eq.mpr ab;clear ab;obtain rfl := Option.some.inj H
                   go_enter Tryz.func118, Tryz.ntmps118
                   go_wp2
                   go_ret
                   exact ⟨by first | rfl | (simp; done) | (simp [*]; done), by repeat (first | exact qt.refl _ | apply qt.step)⟩
                 · rw [if_neg ab] at H
                   have an : (a0 == 19) = false := beq_eq_false_iff_ne.mpr ab;have ao : (a0 != 19) = true := bne_iff_ne.mpr ab
                   by_cases ac : a0 = 20
                   · rw [if_pos ac] at H
                     have ap : (a0 == 20) = true := beq_iff_eq.mpr ac;have au : (a0 != 20) = false := bne_eq_false_iff_eq.mpr ac;clear ac;obtain rfl := Option.some.inj H
                     go_enter Tryz.func118, Tryz.ntmps118
                     go_wp2
                     go_ret
                     exact ⟨by first | rfl | (simp; done) | (simp [*]; done), by repeat (first | exact qt.refl _ | apply qt.step)⟩
                   · rw [if_neg ac] at H
                     have ap : (a0 == 20) = false := beq_eq_false_iff_ne.mpr ac;have au : (a0 != 20) = true := bne_iff_ne.mpr ac
                     by_cases ae : a0 = 21
                     · rw [if_pos ae] at H
                       have av : (a0 == 21) = true := beq_iff_eq.mpr ae;have aw : (a0 != 21) = false := bne_eq_false_iff_eq.mpr ae;clear ae;obtain rfl := Option.some.inj H
                       go_enter Tryz.func118, Tryz.ntmps118
                       go_wp2
                       go_ret
                       exact ⟨by first | rfl | (simp; done) | (simp [*]; done), by repeat (first | exact qt.refl _ | apply qt.step)⟩
                     · rw [if_neg ae] at H
                       have av : (a0 == 21) = false := beq_eq_false_iff_ne.mpr ae;have aw : (a0 != 21) = true := bne_iff_ne.mpr ae
                       by_cases af : a0 = 22
                       · rw [if_pos af] at H
                         have ax : (a0 == 22) = true := beq_iff_eq.mpr af;have ay : (a0 != 22) = false := bne_eq_false_iff_eq.mpr af;clear af;obtain rfl := Option.some.inj H
                         go_enter Tryz.func118, Tryz.ntmps118
                         go_wp2
                         go_ret
                         exact ⟨by first | rfl | (simp; done) | (simp [*]; done), by repeat (first | exact qt.refl _ | apply qt.step)⟩
                       · rw [if_neg af] at H
                         have ax : (a0 == 22) = false := beq_eq_false_iff_ne.mpr af;have ay : (a0 != 22) = true := bne_iff_ne.mpr af
                         by_cases ag : a0 = 23
                         · rw [if_pos ag] at H
                           have az : (a0 == 23) = true := beq_iff_eq.mpr ag;have a1 : (a0 != 23) = false := bne_eq_false_iff_eq.mpr ag;clear ag;obtain rfl := Option.some.inj H
                           go_enter Tryz.func118, Tryz.ntmps118
                           go_wp2
                           go_ret
                           exact ⟨by first | rfl | (simp; done) | (simp [*]; done), by repeat (first | exact qt.refl _ | apply qt.step)⟩
                         · rw [if_neg ag] at H
                           have az : (a0 == 23) = false := beq_eq_false_iff_ne.mpr ag;have a1 : (a0 != 23) = true := bne_iff_ne.mpr ag
                           by_cases ah : a0 = 24
                           · rw [if_pos ah] at H
                             have a2 : (a0 == 24) = true := beq_iff_eq.mpr ah;have a3 : (a0 != 24) = false := bne_eq_false_iff_eq.mpr ah;clear ah;obtain rfl := Option.some.inj H
                             go_enter Tryz.func118, Tryz.ntmps118
                             go_wp2
                             go_ret
                             exact ⟨by first | rfl | (simp; done) | (simp [*]; done), by repeat (first | exact qt.refl _ | apply qt.step)⟩
                           · rw [if_neg ah] at H
                             have a2 : (a0 == 24) = false := beq_eq_false_iff_ne.mpr ah;have a3 : (a0 != 24) = true := bne_iff_ne.mpr ah;obtain rfl := Option.some.inj H
                             go_enter Tryz.func118, Tryz.ntmps118
                             go_wp2
                             go_ret
                             exact ⟨by first | rfl | (simp; done) | (simp [*]; done), by repeat (first | exact qt.refl _ | apply qt.step)⟩
end Go.Proofs.YtfmgbgkcmmpcfaaGreatDoor.PTk

