import Derived.Test.YtfmgbgkcmmpcfaaGreatDoorCPTkx0
import Derived.Test.YtfmgbgkcmmpcfaaGreatDoorCPTkx9
namespace Go.Proofs.YtfmgbgkcmmpcfaaGreatDoor.PTk
open Go.RowKit Go.Proofs.YtfmgbgkcmmpcfaaGreatDoorW.PrintWords Go.Proofs.YtfmgbgkcmmpcfaaGreatDoorW.PrintLast Go.Proofs.YtfmgbgkcmmpcfaaGreatDoorW.PrintMore
attribute [local go_sem] zp zC
set_option linter.unusedVariables false
set_option linter.unusedSimpArgs false
mutual
def qq.j0 : Nat → Int → Int → Bool → Int → Int → Int → ByteArray → Option (Bool)
 | 0, _, _, _, _, _, _, _ => none
 | k + 1, x3, x7, x8, x121000, x121001, x121002, x121003 => if x8 = true then (some (x3 == 0)) else (if x7 = 7 then (qq.j1 k x3 x7 (x7 == 7) x121000 x121001 x121002 x121003) else (if x7 = 8 then (qq.j1 k x3 x7 (x7 == 8) x121000 x121001 x121002 x121003) else (if x7 = 9 then (qq.j1 k x3 x7 (x7 == 9) x121000 x121001 x121002 x121003) else (qq.j1 k x3 x7 (x7 == 10) x121000 x121001 x121002 x121003))))
def qq.j1 : Nat → Int → Int → Bool → Int → Int → Int → ByteArray → Option (Bool)
 | 0, _, _, _, _, _, _, _ => none
 | k + 1, x3, x7, x17, x121000, x121001, x121002, x121003 => if x17 = true then (some (x3 == 1)) else (if x7 = 26 then (some (x3 == 3)) else (if x7 = 27 then (if x3 ≥ 2 then (some (decide (x3 ≤ 17))) else (some false)) else (if x7 = 28 then (if x3 ≥ 3 then (if x3 ≤ 33 then (some ((Int.tmod x3 2) == 1)) else (some false)) else (some false)) else (if x7 = 29 then ((qx.f k x121003 x3).bind fun t121 => (some t121)) else (if x121000 ≥ 11 then (if x121000 ≤ 25 then (some (x3 == 2)) else (some false)) else (some false))))))
end
def qq.f (k : Nat) (aa : Int) (ab : Int) (ac : Int) (ae : ByteArray) : Option (Bool) := if aa = 1 then (qq.j0 k ab aa (aa == 1) aa ab ac ae) else (if aa = 2 then (qq.j0 k ab aa (aa == 2) aa ab ac ae) else (if aa = 3 then (qq.j0 k ab aa (aa == 3) aa ab ac ae) else (if aa = 4 then (qq.j0 k ab aa (aa == 4) aa ab ac ae) else (if aa = 5 then (qq.j0 k ab aa (aa == 5) aa ab ac ae) else (qq.j0 k ab aa (aa == 6) aa ab ac ae)))))
theorem qq.mono_l : ∀ k, (∀ y0 y1 y2 y3 y4 y5 y6, LeO (qq.j0 k y0 y1 y2 y3 y4 y5 y6) (qq.j0 (k + 1) y0 y1 y2 y3 y4 y5 y6)) ∧ (∀ y0 y1 y2 y3 y4 y5 y6, LeO (qq.j1 k y0 y1 y2 y3 y4 y5 y6) (qq.j1 (k + 1) y0 y1 y2 y3 y4 y5 y6))
 | 0 => ⟨fun _ _ _ _ _ _ _ r h => by simp [qq.j0] at h, fun _ _ _ _ _ _ _ r h => by simp [qq.j1] at h⟩
 | k + 1 => by
  obtain ⟨ai, aj⟩ := qq.mono_l k;refine ⟨?_, ?_⟩
  · intro y0 y1 y2 y3 y4 y5 y6
    unfold qq.j0
    repeat' first
    | (with_reducible exact ai _ _ _ _ _ _ _)
    | (with_reducible exact aj _ _ _ _ _ _ _)
    | (with_reducible exact qx.mono _ _ _)
    | (with_reducible exact LeO.refl _)
    | (with_reducible exact LeO.none _)
    | (with_reducible refine LeO.ite ?_ ?_)
    | (with_reducible refine LeO.bind ?_ (fun _ => ?_))
    | exact ai _ _ _ _ _ _ _
    | exact aj _ _ _ _ _ _ _
    | exact qx.mono _ _ _
    | exact LeO.none _
    | refine LeO.ite ?_ ?_
    | refine LeO.bind ?_ (fun _ => ?_)
  · intro y0 y1 y2 y3 y4 y5 y6
    unfold qq.j1
    repeat' first
    | (with_reducible exact ai _ _ _ _ _ _ _)
    | (with_reducible exact aj _ _ _ _ _ _ _)
    | (with_reducible exact qx.mono _ _ _)
    | (with_reducible exact LeO.refl _)
    | (with_reducible exact LeO.none _)
    | (with_reducible refine LeO.ite ?_ ?_)
    | (with_reducible refine LeO.bind ?_ (fun _ => ?_))
    | exact ai _ _ _ _ _ _ _
    | exact aj _ _ _ _ _ _ _
    | exact qx.mono _ _ _
    | exact LeO.none _
    | refine LeO.ite ?_ ?_
    | refine LeO.bind ?_ (fun _ => ?_)
theorem qq.mono : ∀ a0 a1 a2 a3 k, LeO (qq.f k a0 a1 a2 a3) (qq.f (k + 1) a0 a1 a2 a3) := by
 intro a0 a1 a2 a3 k;obtain ⟨aa, ab⟩ := qq.mono_l k;unfold qq.f
 repeat' first
  | (with_reducible exact aa _ _ _ _ _ _ _)
  | (with_reducible exact ab _ _ _ _ _ _ _)
  | (with_reducible exact qx.mono _ _ _)
  | (with_reducible exact LeO.refl _)
  | (with_reducible exact LeO.none _)
  | (with_reducible refine LeO.ite ?_ ?_)
  | (with_reducible refine LeO.bind ?_ (fun _ => ?_))
  | exact aa _ _ _ _ _ _ _
  | exact ab _ _ _ _ _ _ _
  | exact qx.mono _ _ _
  | exact LeO.none _
  | refine LeO.ite ?_ ?_
  | refine LeO.bind ?_ (fun _ => ?_)
set_option maxHeartbeats 8000000 in
set_option maxRecDepth 100000 in
theorem qq.calls (k : Nat) (aa : Int) (ac : Int) (ah : Int) (ag : ByteArray) (r : Bool) (w : World) (h : qq.f k aa ac ah ag = some r) :
 Calls Tryz.prog 156 #[.agg #[.int .i64 aa, .int .i64 ac, .int .i64 ah, .string ag]] w fun e w' => e = .returned (.bool r) ∧ Below w.heap.size w w' := by
 have d1 := Tryz.underlying86;have HB := Aside0.mk (Below.refl w.heap.size w);have H : (if aa = 1 then (qq.j0 k ac aa (aa == 1) aa ac ah ag) else (if aa = 2 then (qq.j0 k ac aa (aa == 2) aa ac ah ag) else (if aa = 3 then (qq.j0 k ac aa (aa == 3) aa ac ah ag) else (if aa = 4 then (qq.j0 k ac aa (aa == 4) aa ac ah ag) else (if aa = 5 then (qq.j0 k ac aa (aa == 5) aa ac ah ag) else (qq.j0 k ac aa (aa == 6) aa ac ah ag)))))) = some r := h;clear h;have b4 := Aside0.mk H;clear H
 go_enter Tryz.func156, Tryz.ntmps156
 go_upto_if 8 with (first | ((with_reducible refine qU (N := 1) rfl ?_); refine qQ ?hg (N := 1) ?hd (cs := #[.int .i64 aa, .int .i64 ac, .int .i64 ah, .string ag]) (t := 86) ?hr ?_; (case hd => rfl); (case hg => rfl); (case hr => first | (go_simp; done) | (go_simp; rfl)); intro ae hg w3 hbox hb; have ab := Aside0.mk (hbox); have d0 := Aside0.mk ((by rw [hg]; exact (qw (by repeat (first | (with_reducible first | exact HB.out | apply q8 | apply q9 | apply qb) | exact HB.out))) : w.heap.size ≤ ae)); have af := Aside0.mk ((by rw [hg]; exact (qw (by repeat (first | (with_reducible first | exact HB.out | apply q8 | apply q9 | apply qb) | exact HB.out))) : w.heap.size ≤ ae)); replace HB := Aside0.mk (qr (by repeat (first | (with_reducible first | exact HB.out | apply q8 | apply q9 | apply qb) | exact HB.out)) hb); clear hb hbox hg; have a9 : w3.cell? ⟨ae, 0, none⟩ = some (.int .i64 aa) := (qa ab.out 0).trans rfl; have ba : w3.cell? ⟨ae, 1, none⟩ = some (.int .i64 ac) := (qa ab.out 1).trans rfl; have bb : w3.cell? ⟨ae, 2, none⟩ = some (.int .i64 ah) := (qa ab.out 2).trans rfl; have bc : w3.cell? ⟨ae, 3, none⟩ = some (.string ag) := (qa ab.out 3).trans rfl; have bd := qc ab.out 0; have bf := qc ab.out 1; have bg := qc ab.out 2; have bh := qc ab.out 3))
 (try simp only [Act.put, List.setIfInBounds_toArray, List.set_cons_zero, List.set_cons_succ])
 go_cut [8] (fun v8 wc => ∃ (kq : Nat) (a2 : Bool), v8 = .bool a2 ∧ Aside0 (qq.j0 kq ac aa a2 aa ac ah ag = some r) ∧ Aside0 (kq ≤ k) ∧ Aside0 (wc.heap[ae]? = some (.cells #[.int .i64 aa, .int .i64 ac, .int .i64 ah, .string ag] 86 (0, 0))) ∧ Aside0 (Below w.heap.size w wc))
 case first =>
  have H := b4.out;clear b4
  by_cases c5 : aa = 1
  · rw [if_pos c5] at H
    have aj : (aa == 1) = true := beq_iff_eq.mpr c5;have bk : (aa != 1) = false := bne_eq_false_iff_eq.mpr c5;clear c5
    (first | rw [aj] | (simp only [qH, qK]; rw [aj]) | skip)
    have H' := Aside0.mk H;clear H;go_wp2;go_meet
    case rel => exact ⟨_, ((aa == 1)), (by first | rfl | (simp; done) | (simp [*]; done)), H', ⟨by first | omega | exact Nat.le_refl _⟩, ⟨by (with_reducible repeat (first | refine qf ?_ _ | refine qh ?_ | refine qe ?_ _)); exact ab.out⟩, ⟨by repeat (first | (with_reducible first | exact HB.out | apply q8 | apply q9 | apply qb | refine qg ?_ af.out) | exact HB.out)⟩⟩
  · rw [if_neg c5] at H
    have aj : (aa == 1) = false := beq_eq_false_iff_ne.mpr c5;have bk : (aa != 1) = true := bne_iff_ne.mpr c5
    (first | rw [aj] | (simp only [qH, qK]; rw [aj]) | skip)
    by_cases c6 : aa = 2
    · rw [if_pos c6] at H
      have bl : (aa == 2) = true := beq_iff_eq.mpr c6;have bm : (aa != 2) = false := bne_eq_false_iff_eq.mpr c6;clear c6;have H' := Aside0.mk H;clear H;go_wp2;go_meet
      case rel => exact ⟨_, ((aa == 2)), (by first | rfl | (simp; done) | (simp [*]; done)), H', ⟨by first | omega | exact Nat.le_refl _⟩, ⟨by (with_reducible repeat (first | refine qf ?_ _ | refine qh ?_ | refine qe ?_ _)); exact ab.out⟩, ⟨by repeat (first | (with_reducible first | exact HB.out | apply q8 | apply q9 | apply qb | refine qg ?_ af.out) | exact HB.out)⟩⟩
    · rw [if_neg c6] at H
      have bl : (aa == 2) = false := beq_eq_false_iff_ne.mpr c6;have bm : (aa != 2) = true := bne_iff_ne.mpr c6
      by_cases c7 : aa = 3
      · rw [if_pos c7] at H
        have bn : (aa == 3) = true := beq_iff_eq.mpr c7;have bo : (aa != 3) = false := bne_eq_false_iff_eq.mpr c7;clear c7;have H' := Aside0.mk H;clear H;go_wp2;go_meet
        case rel => exact ⟨_, ((aa == 3)), (by first | rfl | (simp; done) | (simp [*]; done)), H', ⟨by first | omega | exact Nat.le_refl _⟩, ⟨by (with_reducible repeat (first | refine qf ?_ _ | refine qh ?_ | refine qe ?_ _)); exact ab.out⟩, ⟨by repeat (first | (with_reducible first | exact HB.out | apply q8 | apply q9 | apply qb | refine qg ?_ af.out) | exact HB.out)⟩⟩
      · rw [if_neg c7] at H
        have bn : (aa == 3) = false := beq_eq_false_iff_ne.mpr c7;have bo : (aa != 3) = true := bne_iff_ne.mpr c7
        by_cases c8 : aa = 4
        · rw [if_pos c8] at H
          have bp : (aa == 4) = true := beq_iff_eq.mpr c8;have bq : (aa != 4) = false := bne_eq_false_iff_eq.mpr c8;clear c8;have H' := Aside0.mk H;clear H;go_wp2;go_meet
          case rel => exact ⟨_, ((aa == 4)), (by first | rfl | (simp; done) | (simp [*]; done)), H', ⟨by first | omega | exact Nat.le_refl _⟩, ⟨by (with_reducible repeat (first | refine qf ?_ _ | refine qh ?_ | refine qe ?_ _)); exact ab.out⟩, ⟨by repeat (first | (with_reducible first | exact HB.out | apply q8 | apply q9 | apply qb | refine qg ?_ af.out) | exact HB.out)⟩⟩
        · rw [if_neg c8] at H
          have bp : (aa == 4) = false := beq_eq_false_iff_ne.mpr c8;have bq : (aa != 4) = true := bne_iff_ne.mpr c8
          by_cases c9 : aa = 5
          · rw [if_pos c9] at H
            have br : (aa == 5) = true := beq_iff_eq.mpr c9;have bs : (aa != 5) = false := bne_eq_false_iff_eq.mpr c9;clear c9;have H' := Aside0.mk H;clear H;go_wp2;go_meet
            case rel => exact ⟨_, ((aa == 5)), (by first | rfl | (simp; done) | (simp [*]; done)), H', ⟨by first | omega | exact Nat.le_refl _⟩, ⟨by (with_reducible repeat (first | refine qf ?_ _ | refine qh ?_ | refine qe ?_ _)); exact ab.out⟩, ⟨by repeat (first | (with_reducible first | exact HB.out | apply q8 | apply q9 | apply qb | refine qg ?_ af.out) | exact HB.out)⟩⟩
          · rw [if_neg c9] at H
            have br : (aa == 5) = false := beq_eq_false_iff_ne.mpr c9;have bs : (aa != 5) = true := bne_iff_ne.mpr c9;have H' := Aside0.mk H;clear H;go_wp2;go_meet
            case rel => exact ⟨_, ((aa == 6)), (by first | rfl | (simp; done) | (simp [*]; done)), H', ⟨by first | omega | exact Nat.le_refl _⟩, ⟨by (with_reducible repeat (first | refine qf ?_ _ | refine qh ?_ | refine qe ?_ _)); exact ab.out⟩, ⟨by repeat (first | (with_reducible first | exact HB.out | apply q8 | apply q9 | apply qb | refine qg ?_ af.out) | exact HB.out)⟩⟩
 case rest =>
  clear b4
  (try clear c1); (try clear p2); (try clear c5); (try clear aj); (try clear bk); (try clear c6); (try clear bl); (try clear bm); (try clear c7); (try clear bn); (try clear bo); (try clear c8); (try clear bp); (try clear bq); (try clear c9); (try clear br); (try clear bs); (try clear a9); (try clear ba); (try clear bb); (try clear bc); (try clear bd); (try clear bf); (try clear bg); (try clear bh)
  obtain ⟨kq, a2, rfl, HA, bv, ab, HB⟩ := hcut
  cases kq with
  | zero => exact absurd HA.out (by simp [qq.j0])
  | succ bi =>
   have H := HA.out;clear HA;simp only [qq.j0] at H
   by_cases bj : a2 = true
   · subst bj
     have H1 : (some (ac == 0)) = some r := by rw [if_pos rfl] at H; exact H
     clear H;have H := H1;clear H1;obtain rfl := Option.some.inj H;go_wp2
     go_ret
     exact ⟨by first | rfl | (simp [qm, qn] <;> rfl) | (simp [*, qm, qn] <;> rfl), by repeat (first | (with_reducible first | exact HB.out | apply q8 | apply q9 | apply qb | refine qg ?_ af.out) | exact HB.out)⟩
   · replace bj := Bool.eq_false_iff.mpr bj
     subst bj
     have H1 : (if aa = 7 then (qq.j1 bi ac aa (aa == 7) aa ac ah ag) else (if aa = 8 then (qq.j1 bi ac aa (aa == 8) aa ac ah ag) else (if aa = 9 then (qq.j1 bi ac aa (aa == 9) aa ac ah ag) else (qq.j1 bi ac aa (aa == 10) aa ac ah ag)))) = some r := by rw [if_neg (show ¬ (false = true) by decide)] at H; exact H
     clear H;have H := H1;clear H1;have bu := Aside0.mk H;clear H
     go_upto_if 17 with (fail)
     go_cut [17] (fun dy wc => ∃ (kq : Nat) (ak : Bool), dy = .bool ak ∧ Aside0 (qq.j1 kq ac aa ak aa ac ah ag = some r) ∧ Aside0 (kq ≤ bi) ∧ Aside0 (wc.heap[ae]? = some (.cells #[.int .i64 aa, .int .i64 ac, .int .i64 ah, .string ag] 86 (0, 0))) ∧ Aside0 (Below w.heap.size w wc))
     case first =>
      have H := bu.out;clear bu
      by_cases al : aa = 7
      · rw [if_pos al] at H
        have ai : (aa == 7) = true := beq_iff_eq.mpr al;have bw : (aa != 7) = false := bne_eq_false_iff_eq.mpr al;clear al
        (first | rw [ai] | (simp only [qH, qK]; rw [ai]) | skip)
        have H' := Aside0.mk H;clear H;go_wp2;go_meet
        case rel => exact ⟨_, ((aa == 7)), (by first | rfl | (simp; done) | (simp [*]; done)), H', ⟨by have := bv.out; first | omega | exact Nat.le_refl _⟩, ⟨by (with_reducible repeat (first | refine qf ?_ _ | refine qh ?_ | refine qe ?_ _)); exact ab.out⟩, ⟨by repeat (first | (with_reducible first | exact HB.out | apply q8 | apply q9 | apply qb | refine qg ?_ af.out) | exact HB.out)⟩⟩
      · rw [if_neg al] at H
        have ai : (aa == 7) = false := beq_eq_false_iff_ne.mpr al;have bw : (aa != 7) = true := bne_iff_ne.mpr al
        (first | rw [ai] | (simp only [qH, qK]; rw [ai]) | skip)
        by_cases am : aa = 8
        · rw [if_pos am] at H
          have bz : (aa == 8) = true := beq_iff_eq.mpr am;have b0 : (aa != 8) = false := bne_eq_false_iff_eq.mpr am;clear am;have H' := Aside0.mk H;clear H;go_wp2;go_meet
          case rel => exact ⟨_, ((aa == 8)), (by first | rfl | (simp; done) | (simp [*]; done)), H', ⟨by have := bv.out; first | omega | exact Nat.le_refl _⟩, ⟨by (with_reducible repeat (first | refine qf ?_ _ | refine qh ?_ | refine qe ?_ _)); exact ab.out⟩, ⟨by repeat (first | (with_reducible first | exact HB.out | apply q8 | apply q9 | apply qb | refine qg ?_ af.out) | exact HB.out)⟩⟩
        · rw [if_neg am] at H
          have bz : (aa == 8) = false := beq_eq_false_iff_ne.mpr am;have b0 : (aa != 8) = true := bne_iff_ne.mpr am
          by_cases an : aa = 9
          · rw [if_pos an] at H
            have b1 : (aa == 9) = true := beq_iff_eq.mpr an;have b2 : (aa != 9) = false := bne_eq_false_iff_eq.mpr an;clear an;have H' := Aside0.mk H;clear H;go_wp2;go_meet
            case rel => exact ⟨_, ((aa == 9)), (by first | rfl | (simp; done) | (simp [*]; done)), H', ⟨by have := bv.out; first | omega | exact Nat.le_refl _⟩, ⟨by (with_reducible repeat (first | refine qf ?_ _ | refine qh ?_ | refine qe ?_ _)); exact ab.out⟩, ⟨by repeat (first | (with_reducible first | exact HB.out | apply q8 | apply q9 | apply qb | refine qg ?_ af.out) | exact HB.out)⟩⟩
          · rw [if_neg an] at H
            have b1 : (aa == 9) = false := beq_eq_false_iff_ne.mpr an;have b2 : (aa != 9) = true := bne_iff_ne.mpr an;have H' := Aside0.mk H;clear H;go_wp2;go_meet
            case rel => exact ⟨_, ((aa == 10)), (by first | rfl | (simp; done) | (simp [*]; done)), H', ⟨by have := bv.out; first | omega | exact Nat.le_refl _⟩, ⟨by (with_reducible repeat (first | refine qf ?_ _ | refine qh ?_ | refine qe ?_ _)); exact ab.out⟩, ⟨by repeat (first | (with_reducible first | exact HB.out | apply q8 | apply q9 | apply qb | refine qg ?_ af.out) | exact HB.out)⟩⟩
     case rest =>
      clear bu
      (try clear c1); (try clear p2); (try clear c5); (try clear aj); (try clear bk); (try clear c6); (try clear bl); (try clear bm); (try clear c7); (try clear bn); (try clear bo); (try clear c8); (try clear bp); (try clear bq); (try clear c9); (try clear br); (try clear bs); (try clear bj); (try clear al); (try clear ai); (try clear bw); (try clear am); (try clear bz); (try clear b0); (try clear an); (try clear b1); (try clear b2); (try clear a9); (try clear ba); (try clear bb); (try clear bc); (try clear bd); (try clear bf); (try clear bg); (try clear bh); (try clear p2)
      obtain ⟨kq, ak, rfl, HA, d4, ab, HB⟩ := hcut
      cases kq with
      | zero => exact absurd HA.out (by simp [qq.j1])
      | succ b5 =>
       have H := HA.out;clear HA;simp only [qq.j1] at H
       by_cases b3 : ak = true
       · subst b3
         have H1 : (some (ac == 1)) = some r := by rw [if_pos rfl] at H; exact H
         clear H;have H := H1;clear H1;obtain rfl := Option.some.inj H;go_wp2
         go_ret
         exact ⟨by first | rfl | (simp [qm, qn] <;> rfl) | (simp [*, qm, qn] <;> rfl), by repeat (first | (with_reducible first | exact HB.out | apply q8 | apply q9 | apply qb | refine qg ?_ af.out) | exact HB.out)⟩
       · replace b3 := Bool.eq_false_iff.mpr b3
         subst b3
         have H1 : (if aa = 26 then (some (ac == 3)) else (if aa = 27 then (if ac ≥ 2 then (some (decide (ac ≤ 17))) else (some false)) else (if aa = 28 then (if ac ≥ 3 then (if ac ≤ 33 then (some ((Int.tmod ac 2) == 1)) else (some false)) else (some false)) else (if aa = 29 then ((qx.f b5 ag ac).bind fun a8 => (some a8)) else (if aa ≥ 11 then (if aa ≤ 25 then (some (ac == 2)) else (some false)) else (some false)))))) = some r := by rw [if_neg (show ¬ (false = true) by decide)] at H; exact H
         clear H;have H := H1;clear H1
         by_cases ap : aa = 26
         · rw [if_pos ap] at H
           have b8 : (aa == 26) = true := beq_iff_eq.mpr ap;have b9 : (aa != 26) = false := bne_eq_false_iff_eq.mpr ap;clear ap;obtain rfl := Option.some.inj H;go_wp2
           go_ret
           exact ⟨by first | rfl | (simp [qm, qn] <;> rfl) | (simp [*, qm, qn] <;> rfl), by repeat (first | (with_reducible first | exact HB.out | apply q8 | apply q9 | apply qb | refine qg ?_ af.out) | exact HB.out)⟩
         · rw [if_neg ap] at H
           have b8 : (aa == 26) = false := beq_eq_false_iff_ne.mpr ap;have b9 : (aa != 26) = true := bne_iff_ne.mpr ap
           by_cases au : aa = 27
           · rw [if_pos au] at H
             have cb : (aa == 27) = true := beq_iff_eq.mpr au;have cc : (aa != 27) = false := bne_eq_false_iff_eq.mpr au;clear au
             by_cases ax : ac ≥ 2
             · rw [if_pos ax] at H
               have cd : decide (2 ≤ ac) = true := decide_eq_true ax;clear ax;obtain rfl := Option.some.inj H;go_wp2
               go_ret
               exact ⟨by first | rfl | (simp [qm, qn] <;> rfl) | (simp [*, qm, qn] <;> rfl), by repeat (first | (with_reducible first | exact HB.out | apply q8 | apply q9 | apply qb | refine qg ?_ af.out) | exact HB.out)⟩
             · rw [if_neg ax] at H
               have cd : decide (2 ≤ ac) = false := decide_eq_false ax;clear ax;obtain rfl := Option.some.inj H;go_wp2
               go_ret
               exact ⟨by first | rfl | (simp [qm, qn] <;> rfl) | (simp [*, qm, qn] <;> rfl), by repeat (first | (with_reducible first | exact HB.out | apply q8 | apply q9 | apply qb | refine qg ?_ af.out) | exact HB.out)⟩
           · rw [if_neg au] at H
             have cb : (aa == 27) = false := beq_eq_false_iff_ne.mpr au;have cc : (aa != 27) = true := bne_iff_ne.mpr au
             by_cases av : aa = 28
             · rw [if_pos av] at H
               have ce : (aa == 28) = true := beq_iff_eq.mpr av;have cf : (aa != 28) = false := bne_eq_false_iff_eq.mpr av;clear av
               by_cases ay : ac ≥ 3
               · rw [if_pos ay] at H
                 have cg : decide (3 ≤ ac) = true := decide_eq_true ay;clear ay
                 by_cases az : ac ≤ 33
                 · rw [if_pos az] at H
                   have ch : decide (ac ≤ 33) = true := decide_eq_true az;clear az;obtain rfl := Option.some.inj H;go_wp2
                   go_ret
                   exact ⟨by first | rfl | (simp [qm, qn] <;> rfl) | (simp [*, qm, qn] <;> rfl), by repeat (first | (with_reducible first | exact HB.out | apply q8 | apply q9 | apply qb | refine qg ?_ af.out) | exact HB.out)⟩
                 · rw [if_neg az] at H
                   have ch : decide (ac ≤ 33) = false := decide_eq_false az;clear az;obtain rfl := Option.some.inj H;go_wp2
                   go_ret
                   exact ⟨by first | rfl | (simp [qm, qn] <;> rfl) | (simp [*, qm, qn] <;> rfl), by repeat (first | (with_reducible first | exact HB.out | apply q8 | apply q9 | apply qb | refine qg ?_ af.out) | exact HB.out)⟩
               · rw [if_neg ay] at H
                 have cg : decide (3 ≤ ac) = false := decide_eq_false ay;clear ay;obtain rfl := Option.some.inj H;go_wp2
                 go_ret
                 exact ⟨by first | rfl | (simp [qm, qn] <;> rfl) | (simp [*, qm, qn] <;> rfl), by repeat (first | (with_reducible first | exact HB.out | apply q8 | apply q9 | apply qb | refine qg ?_ af.out) | exact HB.out)⟩
             · rw [if_neg av] at H
               have ce : (aa == 28) = false := beq_eq_false_iff_ne.mpr av;have cf : (aa != 28) = true := bne_iff_ne.mpr av
               by_cases aw : aa = 29
               · rw [if_pos aw] at H
                 have ci : (aa == 29) = true := beq_iff_eq.mpr aw;have cj : (aa != 29) = false := bne_eq_false_iff_eq.mpr aw;clear aw;replace H := Option.bind_eq_some_iff.mp H;obtain ⟨a8, b6, H⟩ := H;replace H : (some a8) = some r := H;have dz := Aside0.mk b6;clear b6;obtain rfl := Option.some.inj H;have cn : wc.cell? ⟨ae, 0, none⟩ = some (.int .i64 aa) := (qa ab.out 0).trans rfl;have co : wc.cell? ⟨ae, 1, none⟩ = some (.int .i64 ac) := (qa ab.out 1).trans rfl;have cp : wc.cell? ⟨ae, 2, none⟩ = some (.int .i64 ah) := (qa ab.out 2).trans rfl;have cq : wc.cell? ⟨ae, 3, none⟩ = some (.string ag) := (qa ab.out 3).trans rfl;have cr := qc ab.out 0;have ct := qc ab.out 1;have cu := qc ab.out 2;have cv := qc ab.out 3
                 go_wp2_with (first | ((with_reducible refine qI (f := 175) rfl ?_); refine zh (some 54) rfl rfl Tryz.func175 (by kernel_rfl) rfl #[.string ag, .int .i64 ac] rfl (by (try simp only [List.map_toArray, List.map_cons, List.map_nil]); first | done | rfl | (simp only [List.length_drop, List.length_take]; rfl)) ?_; (with_reducible refine (qx.calls b5 ag ac a8 _ dz.out).mono ?_); rintro e w' ⟨rfl, ⟨nd, rfl⟩⟩; refine ⟨_, rfl, ?_⟩))
                 go_ret
                 exact ⟨by first | rfl | (simp [qm, qn] <;> rfl) | (simp [*, qm, qn] <;> rfl), by repeat (first | (with_reducible first | exact HB.out | apply q8 | apply q9 | apply qb | refine qg ?_ af.out) | exact HB.out)⟩
               · rw [if_neg aw] at H
                 have ci : (aa == 29) = false := beq_eq_false_iff_ne.mpr aw;have cj : (aa != 29) = true := bne_iff_ne.mpr aw
                 by_cases a0 : aa ≥ 11
                 · rw [if_pos a0] at H
                   have ck : decide (11 ≤ aa) = true := decide_eq_true a0;clear a0
                   by_cases a1 : aa ≤ 25
                   · rw [if_pos a1] at H
                     have cm : decide (aa ≤ 25) = true := decide_eq_true a1;clear a1;obtain rfl := Option.some.inj H;have cw : wc.cell? ⟨ae, 0, none⟩ = some (.int .i64 aa) := (qa ab.out 0).trans rfl;have cx : wc.cell? ⟨ae, 1, none⟩ = some (.int .i64 ac) := (qa ab.out 1).trans rfl;have cy : wc.cell? ⟨ae, 2, none⟩ = some (.int .i64 ah) := (qa ab.out 2).trans rfl;have cz : wc.cell? ⟨ae, 3, none⟩ = some (.string ag) := (qa ab.out 3).trans rfl;have da := qc ab.out 0;have db := qc ab.out 1;have dc := qc ab.out 2;have dd := qc ab.out 3;go_wp2
                     go_ret
                     exact ⟨by first | rfl | (simp [qm, qn] <;> rfl) | (simp [*, qm, qn] <;> rfl), by repeat (first | (with_reducible first | exact HB.out | apply q8 | apply q9 | apply qb | refine qg ?_ af.out) | exact HB.out)⟩
                   · rw [if_neg a1] at H
                     have cm : decide (aa ≤ 25) = false := decide_eq_false a1;clear a1;obtain rfl := Option.some.inj H;have de : wc.cell? ⟨ae, 0, none⟩ = some (.int .i64 aa) := (qa ab.out 0).trans rfl;have df : wc.cell? ⟨ae, 1, none⟩ = some (.int .i64 ac) := (qa ab.out 1).trans rfl;have dh : wc.cell? ⟨ae, 2, none⟩ = some (.int .i64 ah) := (qa ab.out 2).trans rfl;have di : wc.cell? ⟨ae, 3, none⟩ = some (.string ag) := (qa ab.out 3).trans rfl;have dj := qc ab.out 0;have dk := qc ab.out 1;have dl := qc ab.out 2;have dm := qc ab.out 3;go_wp2
                     go_ret
                     exact ⟨by first | rfl | (simp [qm, qn] <;> rfl) | (simp [*, qm, qn] <;> rfl), by repeat (first | (with_reducible first | exact HB.out | apply q8 | apply q9 | apply qb | refine qg ?_ af.out) | exact HB.out)⟩
                 · rw [if_neg a0] at H
                   have ck : decide (11 ≤ aa) = false := decide_eq_false a0;clear a0;obtain rfl := Option.some.inj H;have dn : wc.cell? ⟨ae, 0, none⟩ = some (.int .i64 aa) := (qa ab.out 0).trans rfl;have dq : wc.cell? ⟨ae, 1, none⟩ = some (.int .i64 ac) := (qa ab.out 1).trans rfl;have dr : wc.cell? ⟨ae, 2, none⟩ = some (.int .i64 ah) := (qa ab.out 2).trans rfl;have dt : wc.cell? ⟨ae, 3, none⟩ = some (.string ag) := (qa ab.out 3).trans rfl;have du := qc ab.out 0;have dv := qc ab.out 1;have dw := qc ab.out 2;have dx := qc ab.out 3;go_wp2
                   go_ret
                   exact ⟨by first | rfl | (simp [qm, qn] <;> rfl) | (simp [*, qm, qn] <;> rfl), by repeat (first | (with_reducible first | exact HB.out | apply q8 | apply q9 | apply qb | refine qg ?_ af.out) | exact HB.out)⟩
def qz.j0 : Nat → Bool → Int → Int → Int → ByteArray → Option (Bool)
 | 0, _, _, _, _, _ => none
 | k + 1, af, ab, ac, ae, aa => if af = true then (some false) else (if ab = 2 then (some (decide ((aa.size : Int) ≤ 4096))) else (if ab = 6 then (if (aa.size : Int) ≥ 1 then (some (decide ((aa.size : Int) ≤ 32))) else (some false)) else (if ab = 29 then (some true) else (some (aa.toList == ([] : List UInt8))))))
def qz.f (k : Nat) (ab : Int) (ac : Int) (aa : Int) (ae : ByteArray) : Option (Bool) := if aa < 0 then (qz.j0 k true ab ac aa ae) else (if aa = 0 then (qz.j0 k false ab ac aa ae) else (qz.j0 k (ab != 1) ab ac aa ae))
theorem qz.mono_l : ∀ k, (∀ y0 y1 y2 y3 y4, LeO (qz.j0 k y0 y1 y2 y3 y4) (qz.j0 (k + 1) y0 y1 y2 y3 y4))
 | 0 => fun _ _ _ _ _ r h => by simp [qz.j0] at h
 | k + 1 => by
  have aa := qz.mono_l k
  · intro y0 y1 y2 y3 y4
    unfold qz.j0
    repeat' first
    | (with_reducible exact aa _ _ _ _ _)
    | (with_reducible exact LeO.refl _)
    | (with_reducible exact LeO.none _)
    | (with_reducible refine LeO.ite ?_ ?_)
    | (with_reducible refine LeO.bind ?_ (fun _ => ?_))
    | exact aa _ _ _ _ _
    | exact LeO.none _
    | refine LeO.ite ?_ ?_
    | refine LeO.bind ?_ (fun _ => ?_)
theorem qz.mono : ∀ a0 a1 a2 a3 k, LeO (qz.f k a0 a1 a2 a3) (qz.f (k + 1) a0 a1 a2 a3) := by
 intro a0 a1 a2 a3 k;have aa := qz.mono_l k;unfold qz.f
 repeat' first
  | (with_reducible exact aa _ _ _ _ _)
  | (with_reducible exact LeO.refl _)
  | (with_reducible exact LeO.none _)
  | (with_reducible refine LeO.ite ?_ ?_)
  | (with_reducible refine LeO.bind ?_ (fun _ => ?_))
  | exact aa _ _ _ _ _
  | exact LeO.none _
  | refine LeO.ite ?_ ?_
  | refine LeO.bind ?_ (fun _ => ?_)
set_option maxHeartbeats 8000000 in
set_option maxRecDepth 100000 in
theorem qz.calls (k : Nat) (ac : Int) (ag : Int) (ae : Int) (af : ByteArray) (r : Bool) (w : World) (h : qz.f k ac ag ae af = some r) :
 Calls Tryz.prog 157 #[.agg #[.int .i64 ac, .int .i64 ag, .int .i64 ae, .string af]] w fun e w' => e = .returned (.bool r) ∧ Below w.heap.size w w' := by
 have df := Tryz.underlying86;have HB := Aside0.mk (Below.refl w.heap.size w);have H : (if ae < 0 then (qz.j0 k true ac ag ae af) else (if ae = 0 then (qz.j0 k false ac ag ae af) else (qz.j0 k (ac != 1) ac ag ae af))) = some r := h;clear h;have au := Aside0.mk H;clear H
 go_enter Tryz.func157, Tryz.ntmps157
 go_upto_region 1 with (first | ((with_reducible refine qU (N := 1) rfl ?_); (try (refine gate_guard (by rfl) ?_; dsimp only)); refine qQ ?hg (N := 1) ?hd (cs := #[.int .i64 ac, .int .i64 ag, .int .i64 ae, .string af]) (t := 86) ?hr ?_; (case hd => rfl); (case hg => rfl); (case hr => first | (go_simp; done) | (go_simp; rfl)); intro ab hg w3 hbox hb; have aa := Aside0.mk (hbox); have de := Aside0.mk ((by rw [hg]; exact (qw (by repeat (first | (with_reducible first | exact HB.out | apply q8 | apply q9 | apply qb) | exact HB.out))) : w.heap.size ≤ ab)); have ah := Aside0.mk ((by rw [hg]; exact (qw (by repeat (first | (with_reducible first | exact HB.out | apply q8 | apply q9 | apply qb) | exact HB.out))) : w.heap.size ≤ ab)); replace HB := Aside0.mk (qr (by repeat (first | (with_reducible first | exact HB.out | apply q8 | apply q9 | apply qb) | exact HB.out)) hb); clear hb hbox hg))
 (try simp only [Act.put, List.setIfInBounds_toArray, List.set_cons_zero, List.set_cons_succ])
 go_cut [15] (fun dd wc => ∃ (kq : Nat) (ak : Bool), dd = .bool ak ∧ Aside0 (qz.j0 kq ak ac ag ae af = some r) ∧ Aside0 (kq ≤ k) ∧ Aside0 (wc.heap[ab]? = some (.cells #[.int .i64 ac, .int .i64 ag, .int .i64 ae, .string af] 86 (0, 0))) ∧ Aside0 (Below w.heap.size w wc))
 case first =>
  have H := au.out;clear au
  by_cases c4 : ae < 0
  · rw [if_pos c4] at H
    have ai : decide (ae < 0) = true := decide_eq_true c4;clear c4
    (first | rw [ai] | (simp only [qH, qK]; rw [ai]) | skip)
    have H' := Aside0.mk H;clear H;have av : w3.cell? ⟨ab, 0, none⟩ = some (.int .i64 ac) := (qa aa.out 0).trans rfl;have aw : w3.cell? ⟨ab, 1, none⟩ = some (.int .i64 ag) := (qa aa.out 1).trans rfl;have ax : w3.cell? ⟨ab, 2, none⟩ = some (.int .i64 ae) := (qa aa.out 2).trans rfl;have ay : w3.cell? ⟨ab, 3, none⟩ = some (.string af) := (qa aa.out 3).trans rfl;have az := qc aa.out 0;have a0 := qc aa.out 1;have a1 := qc aa.out 2;have a2 := qc aa.out 3;go_wp2;go_meet
    case rel => exact ⟨_, (true), (by first | rfl | (simp; done) | (simp [*]; done)), H', ⟨by first | omega | exact Nat.le_refl _⟩, ⟨by (with_reducible repeat (first | refine qf ?_ _ | refine qh ?_ | refine qe ?_ _)); exact aa.out⟩, ⟨by repeat (first | (with_reducible first | exact HB.out | apply q8 | apply q9 | apply qb | refine qg ?_ ah.out) | exact HB.out)⟩⟩
  · rw [if_neg c4] at H
    have ai : decide (ae < 0) = false := decide_eq_false c4;clear c4
    (first | rw [ai] | (simp only [qH, qK]; rw [ai]) | skip)
    by_cases c6 : ae = 0
    · rw [if_pos c6] at H
      have a3 : (ae == 0) = true := beq_iff_eq.mpr c6;have a4 : (ae != 0) = false := bne_eq_false_iff_eq.mpr c6;clear c6;have H' := Aside0.mk H;clear H;have a5 : w3.cell? ⟨ab, 0, none⟩ = some (.int .i64 ac) := (qa aa.out 0).trans rfl;have a6 : w3.cell? ⟨ab, 1, none⟩ = some (.int .i64 ag) := (qa aa.out 1).trans rfl;have a7 : w3.cell? ⟨ab, 2, none⟩ = some (.int .i64 ae) := (qa aa.out 2).trans rfl;have a8 : w3.cell? ⟨ab, 3, none⟩ = some (.string af) := (qa aa.out 3).trans rfl;have a9 := qc aa.out 0;have ba := qc aa.out 1;have bb := qc aa.out 2;have bc := qc aa.out 3;go_wp2;go_meet
      case rel => exact ⟨_, (false), (by first | rfl | (simp; done) | (simp [*]; done)), H', ⟨by first | omega | exact Nat.le_refl _⟩, ⟨by (with_reducible repeat (first | refine qf ?_ _ | refine qh ?_ | refine qe ?_ _)); exact aa.out⟩, ⟨by repeat (first | (with_reducible first | exact HB.out | apply q8 | apply q9 | apply qb | refine qg ?_ ah.out) | exact HB.out)⟩⟩
    · rw [if_neg c6] at H
      have a3 : (ae == 0) = false := beq_eq_false_iff_ne.mpr c6;have a4 : (ae != 0) = true := bne_iff_ne.mpr c6;have H' := Aside0.mk H;clear H;have bd : w3.cell? ⟨ab, 0, none⟩ = some (.int .i64 ac) := (qa aa.out 0).trans rfl;have bf : w3.cell? ⟨ab, 1, none⟩ = some (.int .i64 ag) := (qa aa.out 1).trans rfl;have bg : w3.cell? ⟨ab, 2, none⟩ = some (.int .i64 ae) := (qa aa.out 2).trans rfl;have bh : w3.cell? ⟨ab, 3, none⟩ = some (.string af) := (qa aa.out 3).trans rfl;have bi := qc aa.out 0;have bj := qc aa.out 1;have bk := qc aa.out 2;have bl := qc aa.out 3;go_wp2;go_meet
      case rel => exact ⟨_, ((ac != 1)), (by first | rfl | (simp; done) | (simp [*]; done)), H', ⟨by first | omega | exact Nat.le_refl _⟩, ⟨by (with_reducible repeat (first | refine qf ?_ _ | refine qh ?_ | refine qe ?_ _)); exact aa.out⟩, ⟨by repeat (first | (with_reducible first | exact HB.out | apply q8 | apply q9 | apply qb | refine qg ?_ ah.out) | exact HB.out)⟩⟩
 case rest =>
  clear au
  (try clear c1); (try clear p2); (try clear c4); (try clear ai); (try clear c6); (try clear a3); (try clear a4); (try clear av); (try clear aw); (try clear ax); (try clear ay); (try clear a5); (try clear a6); (try clear a7); (try clear a8); (try clear bd); (try clear bf); (try clear bg); (try clear bh); (try clear az); (try clear a0); (try clear a1); (try clear a2); (try clear a9); (try clear ba); (try clear bb); (try clear bc); (try clear bi); (try clear bj); (try clear bk); (try clear bl)
  obtain ⟨kq, ak, rfl, HA, dh, aa, HB⟩ := hcut
  cases kq with
  | zero => exact absurd HA.out (by simp [qz.j0])
  | succ di =>
   have H := HA.out;clear HA;simp only [qz.j0] at H
   by_cases c9 : ak = true
   · subst c9
     have H1 : (some false) = some r := by rw [if_pos rfl] at H; exact H
     clear H;have H := H1;clear H1;obtain rfl := Option.some.inj H;go_wp2
     go_ret
     exact ⟨by first | rfl | (simp [qm, qn] <;> rfl) | (simp [*, qm, qn] <;> rfl), by repeat (first | (with_reducible first | exact HB.out | apply q8 | apply q9 | apply qb | refine qg ?_ ah.out) | exact HB.out)⟩
   · replace c9 := Bool.eq_false_iff.mpr c9
     subst c9
     have H1 : (if ac = 2 then (some (decide ((af.size : Int) ≤ 4096))) else (if ac = 6 then (if (af.size : Int) ≥ 1 then (some (decide ((af.size : Int) ≤ 32))) else (some false)) else (if ac = 29 then (some true) else (some (af.toList == ([] : List UInt8)))))) = some r := by rw [if_neg (show ¬ (false = true) by decide)] at H; exact H
     clear H;have H := H1;clear H1
     by_cases al : ac = 2
     · rw [if_pos al] at H
       have bo : (ac == 2) = true := beq_iff_eq.mpr al;have bp : (ac != 2) = false := bne_eq_false_iff_eq.mpr al;clear al;obtain rfl := Option.some.inj H;have bz : wc.cell? ⟨ab, 0, none⟩ = some (.int .i64 ac) := (qa aa.out 0).trans rfl;have b0 : wc.cell? ⟨ab, 1, none⟩ = some (.int .i64 ag) := (qa aa.out 1).trans rfl;have b1 : wc.cell? ⟨ab, 2, none⟩ = some (.int .i64 ae) := (qa aa.out 2).trans rfl;have b2 : wc.cell? ⟨ab, 3, none⟩ = some (.string af) := (qa aa.out 3).trans rfl;have b3 := qc aa.out 0;have b4 := qc aa.out 1;have b5 := qc aa.out 2;have b6 := qc aa.out 3;go_wp2
       go_ret
       exact ⟨by first | rfl | (simp [qm, qn] <;> rfl) | (simp [*, qm, qn] <;> rfl), by repeat (first | (with_reducible first | exact HB.out | apply q8 | apply q9 | apply qb | refine qg ?_ ah.out) | exact HB.out)⟩
     · rw [if_neg al] at H
       have bo : (ac == 2) = false := beq_eq_false_iff_ne.mpr al;have bp : (ac != 2) = true := bne_iff_ne.mpr al
       by_cases am : ac = 6
       · rw [if_pos am] at H
         have bq : (ac == 6) = true := beq_iff_eq.mpr am;have br : (ac != 6) = false := bne_eq_false_iff_eq.mpr am;clear am
         by_cases ao : (af.size : Int) ≥ 1
         · rw [if_pos ao] at H
           have bs : decide (1 ≤ (af.size : Int)) = true := decide_eq_true ao;have bu : decide (1 ≤ af.size) = true := decide_eq_true (by omega);clear ao;obtain rfl := Option.some.inj H;have b7 : wc.cell? ⟨ab, 0, none⟩ = some (.int .i64 ac) := (qa aa.out 0).trans rfl;have b8 : wc.cell? ⟨ab, 1, none⟩ = some (.int .i64 ag) := (qa aa.out 1).trans rfl;have b9 : wc.cell? ⟨ab, 2, none⟩ = some (.int .i64 ae) := (qa aa.out 2).trans rfl;have cb : wc.cell? ⟨ab, 3, none⟩ = some (.string af) := (qa aa.out 3).trans rfl;have cc := qc aa.out 0;have cd := qc aa.out 1;have ce := qc aa.out 2;have cf := qc aa.out 3;go_wp2
           go_ret
           exact ⟨by first | rfl | (simp [qm, qn] <;> rfl) | (simp [*, qm, qn] <;> rfl), by repeat (first | (with_reducible first | exact HB.out | apply q8 | apply q9 | apply qb | refine qg ?_ ah.out) | exact HB.out)⟩
         · rw [if_neg ao] at H
           have bs : decide (1 ≤ (af.size : Int)) = false := decide_eq_false ao;have bu : decide (1 ≤ af.size) = false := decide_eq_false (by omega);clear ao;obtain rfl := Option.some.inj H;have cg : wc.cell? ⟨ab, 0, none⟩ = some (.int .i64 ac) := (qa aa.out 0).trans rfl;have ch : wc.cell? ⟨ab, 1, none⟩ = some (.int .i64 ag) := (qa aa.out 1).trans rfl;have ci : wc.cell? ⟨ab, 2, none⟩ = some (.int .i64 ae) := (qa aa.out 2).trans rfl;have cj : wc.cell? ⟨ab, 3, none⟩ = some (.string af) := (qa aa.out 3).trans rfl;have ck := qc aa.out 0;have cm := qc aa.out 1;have cn := qc aa.out 2;have co := qc aa.out 3;go_wp2
           go_ret
           exact ⟨by first | rfl | (simp [qm, qn] <;> rfl) | (simp [*, qm, qn] <;> rfl), by repeat (first | (with_reducible first | exact HB.out | apply q8 | apply q9 | apply qb | refine qg ?_ ah.out) | exact HB.out)⟩
       · rw [if_neg am] at H
         have bq : (ac == 6) = false := beq_eq_false_iff_ne.mpr am;have br : (ac != 6) = true := bne_iff_ne.mpr am
         by_cases an : ac = 29
         · rw [if_pos an] at H
           have bv : (ac == 29) = true := beq_iff_eq.mpr an;have bw : (ac != 29) = false := bne_eq_false_iff_eq.mpr an;clear an;obtain rfl := Option.some.inj H;have cp : wc.cell? ⟨ab, 0, none⟩ = some (.int .i64 ac) := (qa aa.out 0).trans rfl;have cq : wc.cell? ⟨ab, 1, none⟩ = some (.int .i64 ag) := (qa aa.out 1).trans rfl;have cr : wc.cell? ⟨ab, 2, none⟩ = some (.int .i64 ae) := (qa aa.out 2).trans rfl;have ct : wc.cell? ⟨ab, 3, none⟩ = some (.string af) := (qa aa.out 3).trans rfl;have cu := qc aa.out 0;have cv := qc aa.out 1;have cw := qc aa.out 2;have cx := qc aa.out 3;go_wp2
           go_ret
           exact ⟨by first | rfl | (simp [qm, qn] <;> rfl) | (simp [*, qm, qn] <;> rfl), by repeat (first | (with_reducible first | exact HB.out | apply q8 | apply q9 | apply qb | refine qg ?_ ah.out) | exact HB.out)⟩
         · rw [if_neg an] at H
           have bv : (ac == 29) = false := beq_eq_false_iff_ne.mpr an;have bw : (ac != 29) = true := bne_iff_ne.mpr an;obtain rfl := Option.some.inj H;have cy : wc.cell? ⟨ab, 0, none⟩ = some (.int .i64 ac) := (qa aa.out 0).trans rfl;have cz : wc.cell? ⟨ab, 1, none⟩ = some (.int .i64 ag) := (qa aa.out 1).trans rfl;have c5 : wc.cell? ⟨ab, 2, none⟩ = some (.int .i64 ae) := (qa aa.out 2).trans rfl;have c7 : wc.cell? ⟨ab, 3, none⟩ = some (.string af) := (qa aa.out 3).trans rfl;have c8 := qc aa.out 0;have da := qc aa.out 1;have db := qc aa.out 2;have dc := qc aa.out 3;go_wp2
           go_ret
           exact ⟨by first | rfl | (simp [qm, qn] <;> rfl) | (simp [*, qm, qn] <;> rfl), by repeat (first | (with_reducible first | exact HB.out | apply q8 | apply q9 | apply qb | refine qg ?_ ah.out) | exact HB.out)⟩
end Go.Proofs.YtfmgbgkcmmpcfaaGreatDoor.PTk

