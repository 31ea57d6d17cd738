import Derived.Test.YtfmgbgkcmmpcfaaGreatDoorCPTkx0
namespace Go.Proofs.YtfmgbgkcmmpcfaaGreatDoor.PTk
open Go.RowKit Go.Proofs.YtfmgbgkcmmpcfaaGreatDoorW.PrintWords Go.Proofs.YtfmgbgkcmmpcfaaGreatDoorW.PrintLast Go.Proofs.YtfmgbgkcmmpcfaaGreatDoorW.PrintMore
attribute [local go_sem] zp zC
set_option linter.unusedVariables false
set_option linter.unusedSimpArgs false
mutual
def qk.j0 : Nat → Int → Int → Bool → Option (Int)
 | 0, _, _, _ => none
 | k + 1, x1, x5, x20 => if x20 = true then (some 5) else (if x5 = 16 then (some (wrap64 (5 + x1))) else (if x5 = 11 then (qk.j1 k x1 x5 (x5 == 11)) else (qk.j1 k x1 x5 (x5 == 12))))
def qk.j1 : Nat → Int → Int → Bool → Option (Int)
 | 0, _, _, _ => none
 | k + 1, x1, x5, x35 => if x35 = true then (some (wrap64 (6 + x1))) else (if x5 = 13 then (qk.j2 k x1 x5 (x5 == 13)) else (if x5 = 14 then (qk.j2 k x1 x5 (x5 == 14)) else (qk.j2 k x1 x5 (x5 == 15))))
def qk.j2 : Nat → Int → Int → Bool → Option (Int)
 | 0, _, _, _ => none
 | k + 1, x1, x5, x40 => if x40 = true then (some (wrap64 (7 + x1))) else (if x5 = 7 then (some 8) else (some 1))
end
def qk.f (k : Nat) (a0 : Int) (a1 : Int) : Option (Int) := if a0 = 24 then (some (wrap64 (1 + a1))) else (if a0 = 23 then (some (wrap64 (2 + a1))) else (if a0 = 8 then (some 3) else (if a0 = 27 then (if a1 > 0 then (some 1) else (some 5)) else (if a0 = 17 then (qk.j0 k a1 a0 (a0 == 17)) else (if a0 = 18 then (qk.j0 k a1 a0 (a0 == 18)) else (if a0 = 19 then (qk.j0 k a1 a0 (a0 == 19)) else (if a0 = 20 then (qk.j0 k a1 a0 (a0 == 20)) else (if a0 = 21 then (qk.j0 k a1 a0 (a0 == 21)) else (if a0 = 22 then (qk.j0 k a1 a0 (a0 == 22)) else (if a0 = 9 then (qk.j0 k a1 a0 (a0 == 9)) else (if a0 = 10 then (qk.j0 k a1 a0 (a0 == 10)) else (if a0 = 26 then (qk.j0 k a1 a0 (a0 == 26)) else (qk.j0 k a1 a0 (a0 == 25))))))))))))))
theorem qk.mono_l : ∀ k, (∀ y0 y1 y2, LeO (qk.j0 k y0 y1 y2) (qk.j0 (k + 1) y0 y1 y2)) ∧ (∀ y0 y1 y2, LeO (qk.j1 k y0 y1 y2) (qk.j1 (k + 1) y0 y1 y2)) ∧ (∀ y0 y1 y2, LeO (qk.j2 k y0 y1 y2) (qk.j2 (k + 1) y0 y1 y2))
 | 0 => ⟨fun _ _ _ r h => by simp [qk.j0] at h, fun _ _ _ r h => by simp [qk.j1] at h, fun _ _ _ r h => by simp [qk.j2] at h⟩
 | k + 1 => by
  obtain ⟨ae, af, ag⟩ := qk.mono_l k;refine ⟨?_, ?_, ?_⟩
  · intro y0 y1 y2
    unfold qk.j0
    repeat' first
    | (with_reducible exact ae _ _ _)
    | (with_reducible exact af _ _ _)
    | (with_reducible exact ag _ _ _)
    | (with_reducible exact LeO.refl _)
    | (with_reducible exact LeO.none _)
    | (with_reducible refine LeO.ite ?_ ?_)
    | (with_reducible refine LeO.bind ?_ (fun _ => ?_))
    | exact ae _ _ _
    | exact af _ _ _
    | exact ag _ _ _
    | exact LeO.none _
    | refine LeO.ite ?_ ?_
    | refine LeO.bind ?_ (fun _ => ?_)
  · intro y0 y1 y2
    unfold qk.j1
    repeat' first
    | (with_reducible exact ae _ _ _)
    | (with_reducible exact af _ _ _)
    | (with_reducible exact ag _ _ _)
    | (with_reducible exact LeO.refl _)
    | (with_reducible exact LeO.none _)
    | (with_reducible refine LeO.ite ?_ ?_)
    | (with_reducible refine LeO.bind ?_ (fun _ => ?_))
    | exact ae _ _ _
    | exact af _ _ _
    | exact ag _ _ _
    | exact LeO.none _
    | refine LeO.ite ?_ ?_
    | refine LeO.bind ?_ (fun _ => ?_)
  · intro y0 y1 y2
    unfold qk.j2
    repeat' first
    | (with_reducible exact ae _ _ _)
    | (with_reducible exact af _ _ _)
    | (with_reducible exact ag _ _ _)
    | (with_reducible exact LeO.refl _)
    | (with_reducible exact LeO.none _)
    | (with_reducible refine LeO.ite ?_ ?_)
    | (with_reducible refine LeO.bind ?_ (fun _ => ?_))
    | exact ae _ _ _
    | exact af _ _ _
    | exact ag _ _ _
    | exact LeO.none _
    | refine LeO.ite ?_ ?_
    | refine LeO.bind ?_ (fun _ => ?_)
theorem qk.mono : ∀ a0 a1 k, LeO (qk.f k a0 a1) (qk.f (k + 1) a0 a1) := by
 intro a0 a1 k;obtain ⟨aa, ab, ac⟩ := qk.mono_l k;unfold qk.f
 repeat' first
  | (with_reducible exact aa _ _ _)
  | (with_reducible exact ab _ _ _)
  | (with_reducible exact ac _ _ _)
  | (with_reducible exact LeO.refl _)
  | (with_reducible exact LeO.none _)
  | (with_reducible refine LeO.ite ?_ ?_)
  | (with_reducible refine LeO.bind ?_ (fun _ => ?_))
  | exact aa _ _ _
  | exact ab _ _ _
  | exact ac _ _ _
  | exact LeO.none _
  | refine LeO.ite ?_ ?_
  | refine LeO.bind ?_ (fun _ => ?_)
set_option maxHeartbeats 8000000 in
set_option maxRecDepth 100000 in
theorem qk.calls (k : Nat) (a0 : Int) (a1 : Int) (r : Int) (w : World) (h : qk.f k a0 a1 = some r) :
 Calls Tryz.prog 112 #[.int .i64 a0, .int .i64 a1] w fun e w' => e = .returned (.int .i64 r) ∧ qt w w' := by
 have H : (if a0 = 24 then (some (wrap64 (1 + a1))) else (if a0 = 23 then (some (wrap64 (2 + a1))) else (if a0 = 8 then (some 3) else (if a0 = 27 then (if a1 > 0 then (some 1) else (some 5)) else (if a0 = 17 then (qk.j0 k a1 a0 (a0 == 17)) else (if a0 = 18 then (qk.j0 k a1 a0 (a0 == 18)) else (if a0 = 19 then (qk.j0 k a1 a0 (a0 == 19)) else (if a0 = 20 then (qk.j0 k a1 a0 (a0 == 20)) else (if a0 = 21 then (qk.j0 k a1 a0 (a0 == 21)) else (if a0 = 22 then (qk.j0 k a1 a0 (a0 == 22)) else (if a0 = 9 then (qk.j0 k a1 a0 (a0 == 9)) else (if a0 = 10 then (qk.j0 k a1 a0 (a0 == 10)) else (if a0 = 26 then (qk.j0 k a1 a0 (a0 == 26)) else (qk.j0 k a1 a0 (a0 == 25))))))))))))))) = some r := h;clear h
 by_cases c3 : a0 = 24
 · rw [if_pos c3] at H
   have bo : (a0 == 24) = true := beq_iff_eq.mpr c3;have bp : (a0 != 24) = false := bne_eq_false_iff_eq.mpr c3;clear c3;obtain rfl := Option.some.inj H
   go_enter Tryz.func112, Tryz.ntmps112
   go_wp2
   go_ret
   exact ⟨by first | rfl | (simp; done) | (simp [*]; done), by repeat (first | exact qt.refl _ | apply qt.step)⟩
 · rw [if_neg c3] at H
   have bo : (a0 == 24) = false := beq_eq_false_iff_ne.mpr c3;have bp : (a0 != 24) = true := bne_iff_ne.mpr c3
   by_cases c4 : a0 = 23
   · rw [if_pos c4] at H
     have bq : (a0 == 23) = true := beq_iff_eq.mpr c4;have br : (a0 != 23) = false := bne_eq_false_iff_eq.mpr c4;clear c4;obtain rfl := Option.some.inj H
     go_enter Tryz.func112, Tryz.ntmps112
     go_wp2
     go_ret
     exact ⟨by first | rfl | (simp; done) | (simp [*]; done), by repeat (first | exact qt.refl _ | apply qt.step)⟩
   · rw [if_neg c4] at H
     have bq : (a0 == 23) = false := beq_eq_false_iff_ne.mpr c4;have br : (a0 != 23) = true := bne_iff_ne.mpr c4
     by_cases c5 : a0 = 8
     · rw [if_pos c5] at H
       have bs : (a0 == 8) = true := beq_iff_eq.mpr c5;have bu : (a0 != 8) = false := bne_eq_false_iff_eq.mpr c5;clear c5;obtain rfl := Option.some.inj H
       go_enter Tryz.func112, Tryz.ntmps112
       go_wp2
       go_ret
       exact ⟨by first | rfl | (simp; done) | (simp [*]; done), by repeat (first | exact qt.refl _ | apply qt.step)⟩
     · rw [if_neg c5] at H
       have bs : (a0 == 8) = false := beq_eq_false_iff_ne.mpr c5;have bu : (a0 != 8) = true := bne_iff_ne.mpr c5
       by_cases c6 : a0 = 27
       · rw [if_pos c6] at H
         have bv : (a0 == 27) = true := beq_iff_eq.mpr c6;have bw : (a0 != 27) = false := bne_eq_false_iff_eq.mpr c6;clear c6
         by_cases c7 : a1 > 0
         · rw [if_pos c7] at H
           have b0 : decide (0 < a1) = true := decide_eq_true c7;clear c7;obtain rfl := Option.some.inj H
           go_enter Tryz.func112, Tryz.ntmps112
           go_wp2
           go_ret
           exact ⟨by first | rfl | (simp; done) | (simp [*]; done), by repeat (first | exact qt.refl _ | apply qt.step)⟩
         · rw [if_neg c7] at H
           have b0 : decide (0 < a1) = false := decide_eq_false c7;clear c7;obtain rfl := Option.some.inj H
           go_enter Tryz.func112, Tryz.ntmps112
           go_wp2
           go_ret
           exact ⟨by first | rfl | (simp; done) | (simp [*]; done), by repeat (first | exact qt.refl _ | apply qt.step)⟩
       · rw [if_neg c6] at H
         have bv : (a0 == 27) = false := beq_eq_false_iff_ne.mpr c6;have bw : (a0 != 27) = true := bne_iff_ne.mpr c6;have cg := Aside0.mk H;clear H
         go_enter Tryz.func112, Tryz.ntmps112
         go_upto_if 20 with (fail)
         go_cut [20] (fun cm wc => ∃ (kq : Nat) (az : Bool), cm = .bool az ∧ Aside0 (qk.j0 kq a1 a0 az = some r) ∧ Aside0 (kq ≤ k) ∧ qt w wc)
         case first =>
          have H := cg.out;clear cg
          by_cases c9 : a0 = 17
          · rw [if_pos c9] at H
            have ae : (a0 == 17) = true := beq_iff_eq.mpr c9;have b1 : (a0 != 17) = false := bne_eq_false_iff_eq.mpr c9;clear c9
            (first | rw [ae] | (simp only [qH, qK]; rw [ae]) | skip)
            have H' := Aside0.mk H;clear H;go_wp2;go_meet
            case rel => exact ⟨_, ((a0 == 17)), (by first | rfl | (simp; done) | (simp [*]; done)), H', ⟨by first | omega | exact Nat.le_refl _⟩, by repeat (first | exact qt.refl _ | apply qt.step)⟩
          · rw [if_neg c9] at H
            have ae : (a0 == 17) = false := beq_eq_false_iff_ne.mpr c9;have b1 : (a0 != 17) = true := bne_iff_ne.mpr c9
            (first | rw [ae] | (simp only [qH, qK]; rw [ae]) | skip)
            by_cases ah : a0 = 18
            · rw [if_pos ah] at H
              have a2 : (a0 == 18) = true := beq_iff_eq.mpr ah;have a3 : (a0 != 18) = false := bne_eq_false_iff_eq.mpr ah;clear ah;have H' := Aside0.mk H;clear H;go_wp2;go_meet
              case rel => exact ⟨_, ((a0 == 18)), (by first | rfl | (simp; done) | (simp [*]; done)), H', ⟨by first | omega | exact Nat.le_refl _⟩, by repeat (first | exact qt.refl _ | apply qt.step)⟩
            · rw [if_neg ah] at H
              have a2 : (a0 == 18) = false := beq_eq_false_iff_ne.mpr ah;have a3 : (a0 != 18) = true := bne_iff_ne.mpr ah
              by_cases ai : a0 = 19
              · rw [if_pos ai] at H
                have a4 : (a0 == 19) = true := beq_iff_eq.mpr ai;have a5 : (a0 != 19) = false := bne_eq_false_iff_eq.mpr ai;clear ai;have H' := Aside0.mk H;clear H;go_wp2;go_meet
                case rel => exact ⟨_, ((a0 == 19)), (by first | rfl | (simp; done) | (simp [*]; done)), H', ⟨by first | omega | exact Nat.le_refl _⟩, by repeat (first | exact qt.refl _ | apply qt.step)⟩
              · rw [if_neg ai] at H
                have a4 : (a0 == 19) = false := beq_eq_false_iff_ne.mpr ai;have a5 : (a0 != 19) = true := bne_iff_ne.mpr ai
                by_cases aj : a0 = 20
                · rw [if_pos aj] at H
                  have a6 : (a0 == 20) = true := beq_iff_eq.mpr aj;have a7 : (a0 != 20) = false := bne_eq_false_iff_eq.mpr aj;clear aj;have H' := Aside0.mk H;clear H;go_wp2;go_meet
                  case rel => exact ⟨_, ((a0 == 20)), (by first | rfl | (simp; done) | (simp [*]; done)), H', ⟨by first | omega | exact Nat.le_refl _⟩, by repeat (first | exact qt.refl _ | apply qt.step)⟩
                · rw [if_neg aj] at H
                  have a6 : (a0 == 20) = false := beq_eq_false_iff_ne.mpr aj;have a7 : (a0 != 20) = true := bne_iff_ne.mpr aj
                  by_cases ak : a0 = 21
                  · rw [if_pos ak] at H
                    have a8 : (a0 == 21) = true := beq_iff_eq.mpr ak;have a9 : (a0 != 21) = false := bne_eq_false_iff_eq.mpr ak;clear ak;have H' := Aside0.mk H;clear H;go_wp2;go_meet
                    case rel => exact ⟨_, ((a0 == 21)), (by first | rfl | (simp; done) | (simp [*]; done)), H', ⟨by first | omega | exact Nat.le_refl _⟩, by repeat (first | exact qt.refl _ | apply qt.step)⟩
                  · rw [if_neg ak] at H
                    have a8 : (a0 == 21) = false := beq_eq_false_iff_ne.mpr ak;have a9 : (a0 != 21) = true := bne_iff_ne.mpr ak
                    by_cases al : a0 = 22
                    · rw [if_pos al] at H
                      have ba : (a0 == 22) = true := beq_iff_eq.mpr al;have bb : (a0 != 22) = false := bne_eq_false_iff_eq.mpr al;clear al;have H' := Aside0.mk H;clear H;go_wp2;go_meet
                      case rel => exact ⟨_, ((a0 == 22)), (by first | rfl | (simp; done) | (simp [*]; done)), H', ⟨by first | omega | exact Nat.le_refl _⟩, by repeat (first | exact qt.refl _ | apply qt.step)⟩
                    · rw [if_neg al] at H
                      have ba : (a0 == 22) = false := beq_eq_false_iff_ne.mpr al;have bb : (a0 != 22) = true := bne_iff_ne.mpr al
                      by_cases am : a0 = 9
                      · rw [if_pos am] at H
                        have bc : (a0 == 9) = true := beq_iff_eq.mpr am;have bd : (a0 != 9) = false := bne_eq_false_iff_eq.mpr am;clear am;have H' := Aside0.mk H;clear H;go_wp2;go_meet
                        case rel => exact ⟨_, ((a0 == 9)), (by first | rfl | (simp; done) | (simp [*]; done)), H', ⟨by first | omega | exact Nat.le_refl _⟩, by repeat (first | exact qt.refl _ | apply qt.step)⟩
                      · rw [if_neg am] at H
                        have bc : (a0 == 9) = false := beq_eq_false_iff_ne.mpr am;have bd : (a0 != 9) = true := bne_iff_ne.mpr am
                        by_cases an : a0 = 10
                        · rw [if_pos an] at H
                          have bf : (a0 == 10) = true := beq_iff_eq.mpr an;have bg : (a0 != 10) = false := bne_eq_false_iff_eq.mpr an;clear an;have H' := Aside0.mk H;clear H;go_wp2;go_meet
                          case rel => exact ⟨_, ((a0 == 10)), (by first | rfl | (simp; done) | (simp [*]; done)), H', ⟨by first | omega | exact Nat.le_refl _⟩, by repeat (first | exact qt.refl _ | apply qt.step)⟩
                        · rw [if_neg an] at H
                          have bf : (a0 == 10) = false := beq_eq_false_iff_ne.mpr an;have bg : (a0 != 10) = true := bne_iff_ne.mpr an
                          by_cases ao : a0 = 26
                          · rw [if_pos ao] at H
                            have bh : (a0 == 26) = true := beq_iff_eq.mpr ao;have bi : (a0 != 26) = false := bne_eq_false_iff_eq.mpr ao;clear ao;have H' := Aside0.mk H;clear H;go_wp2;go_meet
                            case rel => exact ⟨_, ((a0 == 26)), (by first | rfl | (simp; done) | (simp [*]; done)), H', ⟨by first | omega | exact Nat.le_refl _⟩, by repeat (first | exact qt.refl _ | apply qt.step)⟩
                          · rw [if_neg ao] at H
                            have bh : (a0 == 26) = false := beq_eq_false_iff_ne.mpr ao;have bi : (a0 != 26) = true := bne_iff_ne.mpr ao;have H' := Aside0.mk H;clear H;go_wp2;go_meet
                            case rel => exact ⟨_, ((a0 == 25)), (by first | rfl | (simp; done) | (simp [*]; done)), H', ⟨by first | omega | exact Nat.le_refl _⟩, by repeat (first | exact qt.refl _ | apply qt.step)⟩
         case rest =>
          clear cg
          (try clear c1); (try clear p2); (try clear c3); (try clear bo); (try clear bp); (try clear c4); (try clear bq); (try clear br); (try clear c5); (try clear bs); (try clear bu); (try clear c6); (try clear bv); (try clear bw); (try clear p6); (try clear c7); (try clear b0); (try clear c9); (try clear ae); (try clear b1); (try clear ah); (try clear a2); (try clear a3); (try clear ai); (try clear a4); (try clear a5); (try clear aj); (try clear a6); (try clear a7); (try clear ak); (try clear a8); (try clear a9); (try clear al); (try clear ba); (try clear bb); (try clear am); (try clear bc); (try clear bd); (try clear an); (try clear bf); (try clear bg); (try clear ao); (try clear bh); (try clear bi)
          obtain ⟨kq, az, rfl, HA, b6, ⟨ct, rfl⟩⟩ := hcut
          cases kq with
          | zero => exact absurd HA.out (by simp [qk.j0])
          | succ ch =>
           have H := HA.out;clear HA;simp only [qk.j0] at H
           by_cases bn : az = true
           · subst bn
             have H1 : (some 5) = some r := by rw [if_pos rfl] at H; exact H
             clear H;have H := H1;clear H1;obtain rfl := Option.some.inj H;go_wp2
             go_ret
             exact ⟨by first | rfl | (simp; done) | (simp [*]; done), by repeat (first | exact qt.refl _ | apply qt.step)⟩
           · replace bn := Bool.eq_false_iff.mpr bn
             subst bn
             have H1 : (if a0 = 16 then (some (wrap64 (5 + a1))) else (if a0 = 11 then (qk.j1 ch a1 a0 (a0 == 11)) else (qk.j1 ch a1 a0 (a0 == 12)))) = some r := by rw [if_neg (show ¬ (false = true) by decide)] at H; exact H
             clear H;have H := H1;clear H1
             by_cases ap : a0 = 16
             · rw [if_pos ap] at H
               have b2 : (a0 == 16) = true := beq_iff_eq.mpr ap;have b3 : (a0 != 16) = false := bne_eq_false_iff_eq.mpr ap;clear ap;obtain rfl := Option.some.inj H;go_wp2
               go_ret
               exact ⟨by first | rfl | (simp; done) | (simp [*]; done), by repeat (first | exact qt.refl _ | apply qt.step)⟩
             · rw [if_neg ap] at H
               have b2 : (a0 == 16) = false := beq_eq_false_iff_ne.mpr ap;have b3 : (a0 != 16) = true := bne_iff_ne.mpr ap;have b8 := Aside0.mk H;clear H
               go_upto_if 35 with (fail)
               go_cut [35] (fun cn wc => ∃ (kq : Nat) (au : Bool), cn = .bool au ∧ Aside0 (qk.j1 kq a1 a0 au = some r) ∧ Aside0 (kq ≤ ch) ∧ qt w wc)
               case first =>
                have H := b8.out;clear b8
                by_cases av : a0 = 11
                · rw [if_pos av] at H
                  have ac : (a0 == 11) = true := beq_iff_eq.mpr av;have b4 : (a0 != 11) = false := bne_eq_false_iff_eq.mpr av;clear av
                  (first | rw [ac] | (simp only [qH, qK]; rw [ac]) | skip)
                  have H' := Aside0.mk H;clear H;go_wp2;go_meet
                  case rel => exact ⟨_, ((a0 == 11)), (by first | rfl | (simp; done) | (simp [*]; done)), H', ⟨by have := b6.out; first | omega | exact Nat.le_refl _⟩, by repeat (first | exact qt.refl _ | apply qt.step)⟩
                · rw [if_neg av] at H
                  have ac : (a0 == 11) = false := beq_eq_false_iff_ne.mpr av;have b4 : (a0 != 11) = true := bne_iff_ne.mpr av
                  (first | rw [ac] | (simp only [qH, qK]; rw [ac]) | skip)
                  have H' := Aside0.mk H;clear H;go_wp2;go_meet
                  case rel => exact ⟨_, ((a0 == 12)), (by first | rfl | (simp; done) | (simp [*]; done)), H', ⟨by have := b6.out; first | omega | exact Nat.le_refl _⟩, by repeat (first | exact qt.refl _ | apply qt.step)⟩
               case rest =>
                clear b8
                (try clear c1); (try clear c2); (try clear p2); (try clear c3); (try clear bo); (try clear bp); (try clear c4); (try clear bq); (try clear br); (try clear c5); (try clear bs); (try clear bu); (try clear c6); (try clear bv); (try clear bw); (try clear p6); (try clear c7); (try clear b0); (try clear c9); (try clear ae); (try clear b1); (try clear ah); (try clear a2); (try clear a3); (try clear ai); (try clear a4); (try clear a5); (try clear aj); (try clear a6); (try clear a7); (try clear ak); (try clear a8); (try clear a9); (try clear al); (try clear ba); (try clear bb); (try clear am); (try clear bc); (try clear bd); (try clear an); (try clear bf); (try clear bg); (try clear ao); (try clear bh); (try clear bi); (try clear bn); (try clear ap); (try clear b2); (try clear b3); (try clear av); (try clear ac); (try clear b4); (try clear p2); (try clear p6)
                obtain ⟨kq, au, rfl, HA, b9, ⟨cp, rfl⟩⟩ := hcut
                cases kq with
                | zero => exact absurd HA.out (by simp [qk.j1])
                | succ b5 =>
                 have H := HA.out;clear HA;simp only [qk.j1] at H
                 by_cases b7 : au = true
                 · subst b7
                   have H1 : (some (wrap64 (6 + a1))) = some r := by rw [if_pos rfl] at H; exact H
                   clear H;have H := H1;clear H1;obtain rfl := Option.some.inj H;go_wp2
                   go_ret
                   exact ⟨by first | rfl | (simp; done) | (simp [*]; done), by repeat (first | exact qt.refl _ | apply qt.step)⟩
                 · replace b7 := Bool.eq_false_iff.mpr b7
                   subst b7
                   have H1 : (if a0 = 13 then (qk.j2 b5 a1 a0 (a0 == 13)) else (if a0 = 14 then (qk.j2 b5 a1 a0 (a0 == 14)) else (qk.j2 b5 a1 a0 (a0 == 15)))) = some r := by rw [if_neg (show ¬ (false = true) by decide)] at H; exact H
                   clear H;have H := H1;clear H1;have cb := Aside0.mk H;clear H
                   go_upto_if 40 with (fail)
                   go_cut [40] (fun co wc => ∃ (kq : Nat) (aw : Bool), co = .bool aw ∧ Aside0 (qk.j2 kq a1 a0 aw = some r) ∧ Aside0 (kq ≤ b5) ∧ qt w wc)
                   case first =>
                    have H := cb.out;clear cb
                    by_cases ax : a0 = 13
                    · rw [if_pos ax] at H
                      have ag : (a0 == 13) = true := beq_iff_eq.mpr ax;have cc : (a0 != 13) = false := bne_eq_false_iff_eq.mpr ax;clear ax
                      (first | rw [ag] | (simp only [qH, qK]; rw [ag]) | skip)
                      have H' := Aside0.mk H;clear H;go_wp2;go_meet
                      case rel => exact ⟨_, ((a0 == 13)), (by first | rfl | (simp; done) | (simp [*]; done)), H', ⟨by have := b6.out; have := b9.out; first | omega | exact Nat.le_refl _⟩, by repeat (first | exact qt.refl _ | apply qt.step)⟩
                    · rw [if_neg ax] at H
                      have ag : (a0 == 13) = false := beq_eq_false_iff_ne.mpr ax;have cc : (a0 != 13) = true := bne_iff_ne.mpr ax
                      (first | rw [ag] | (simp only [qH, qK]; rw [ag]) | skip)
                      by_cases ay : a0 = 14
                      · rw [if_pos ay] at H
                        have cd : (a0 == 14) = true := beq_iff_eq.mpr ay;have ce : (a0 != 14) = false := bne_eq_false_iff_eq.mpr ay;clear ay;have H' := Aside0.mk H;clear H;go_wp2;go_meet
                        case rel => exact ⟨_, ((a0 == 14)), (by first | rfl | (simp; done) | (simp [*]; done)), H', ⟨by have := b6.out; have := b9.out; first | omega | exact Nat.le_refl _⟩, by repeat (first | exact qt.refl _ | apply qt.step)⟩
                      · rw [if_neg ay] at H
                        have cd : (a0 == 14) = false := beq_eq_false_iff_ne.mpr ay;have ce : (a0 != 14) = true := bne_iff_ne.mpr ay;have H' := Aside0.mk H;clear H;go_wp2;go_meet
                        case rel => exact ⟨_, ((a0 == 15)), (by first | rfl | (simp; done) | (simp [*]; done)), H', ⟨by have := b6.out; have := b9.out; first | omega | exact Nat.le_refl _⟩, by repeat (first | exact qt.refl _ | apply qt.step)⟩
                   case rest =>
                    clear cb
                    (try clear c1); (try clear c2); (try clear p2); (try clear c3); (try clear bo); (try clear bp); (try clear c4); (try clear bq); (try clear br); (try clear c5); (try clear bs); (try clear bu); (try clear c6); (try clear bv); (try clear bw); (try clear p6); (try clear c7); (try clear b0); (try clear c9); (try clear ae); (try clear b1); (try clear ah); (try clear a2); (try clear a3); (try clear ai); (try clear a4); (try clear a5); (try clear aj); (try clear a6); (try clear a7); (try clear ak); (try clear a8); (try clear a9); (try clear al); (try clear ba); (try clear bb); (try clear am); (try clear bc); (try clear bd); (try clear an); (try clear bf); (try clear bg); (try clear ao); (try clear bh); (try clear bi); (try clear bn); (try clear ap); (try clear b2); (try clear b3); (try clear av); (try clear ac); (try clear b4); (try clear b7); (try clear ax); (try clear ag); (try clear cc); (try clear ay); (try clear cd); (try clear ce); (try clear p2); (try clear p6)
                    obtain ⟨kq, aw, rfl, HA, cq, ⟨cr, rfl⟩⟩ := hcut
                    cases kq with
                    | zero => exact absurd HA.out (by simp [qk.j2])
                    | succ cs =>
                     have H := HA.out;clear HA;simp only [qk.j2] at H
                     by_cases cf : aw = true
                     · subst cf
                       have H1 : (some (wrap64 (7 + a1))) = some r := by rw [if_pos rfl] at H; exact H
                       clear H;have H := H1;clear H1;obtain rfl := Option.some.inj H;go_wp2
                       go_ret
                       exact ⟨by first | rfl | (simp; done) | (simp [*]; done), by repeat (first | exact qt.refl _ | apply qt.step)⟩
                     · replace cf := Bool.eq_false_iff.mpr cf
                       subst cf
                       have H1 : (if a0 = 7 then (some 8) else (some 1)) = some r := by rw [if_neg (show ¬ (false = true) by decide)] at H; exact H
                       clear H;have H := H1;clear H1
                       by_cases bj : a0 = 7
                       · rw [if_pos bj] at H
                         have cj : (a0 == 7) = true := beq_iff_eq.mpr bj;have ck : (a0 != 7) = false := bne_eq_false_iff_eq.mpr bj;clear bj;obtain rfl := Option.some.inj H;go_wp2
                         go_ret
                         exact ⟨by first | rfl | (simp; done) | (simp [*]; done), by repeat (first | exact qt.refl _ | apply qt.step)⟩
                       · rw [if_neg bj] at H
                         have cj : (a0 == 7) = false := beq_eq_false_iff_ne.mpr bj;have ck : (a0 != 7) = true := bne_iff_ne.mpr bj;obtain rfl := Option.some.inj H;go_wp2
                         go_ret
                         exact ⟨by first | rfl | (simp; done) | (simp [*]; done), by repeat (first | exact qt.refl _ | apply qt.step)⟩
end Go.Proofs.YtfmgbgkcmmpcfaaGreatDoor.PTk

