import Derived.Test.YtfmgbgkcmmpcfaaGreatDoorCPTkx0
import Derived.Test.YtfmgbgkcmmpcfaaGreatDoorCPTkx12
namespace Go.Proofs.YtfmgbgkcmmpcfaaGreatDoor.PTk
open Go.RowKit Go.Proofs.YtfmgbgkcmmpcfaaGreatDoorW.PrintWords Go.Proofs.YtfmgbgkcmmpcfaaGreatDoorW.PrintLast Go.Proofs.YtfmgbgkcmmpcfaaGreatDoorW.PrintMore
attribute [local go_sem] zp zC
set_option linter.unusedVariables false
set_option linter.unusedSimpArgs false
mutual
def qj.j0 : Nat → Int → Bool → Option (Int)
 | 0, _, _ => none
 | k + 1, x5, x14 => if x14 = true then (some 4) else (if x5 = 16 then (some 5) else (if x5 = 11 then (qj.j1 k x5 (x5 == 11)) else (qj.j1 k x5 (x5 == 12))))
def qj.j1 : Nat → Int → Bool → Option (Int)
 | 0, _, _ => none
 | k + 1, x5, x28 => if x28 = true then (some 6) else (if x5 = 13 then (qj.j2 k x5 (x5 == 13)) else (if x5 = 14 then (qj.j2 k x5 (x5 == 14)) else (qj.j2 k x5 (x5 == 15))))
def qj.j2 : Nat → Int → Bool → Option (Int)
 | 0, _, _ => none
 | k + 1, x5, x31 => if x31 = true then (some 7) else (if x5 = 7 then (some 8) else (some 9))
end
def qj.f (k : Nat) (aa : Int) (ab : Int) (ac : Int) (ae : ByteArray) (af : List (S130)) : Option (Int) := if aa = 24 then (some 1) else (if aa = 23 then (some 2) else (if aa = 8 then ((zc.f aa ab ac ae af).bind fun ag => (if ag = true then (some 4) else (some 3))) else (if aa = 17 then (qj.j0 k aa (aa == 17)) else (if aa = 18 then (qj.j0 k aa (aa == 18)) else (if aa = 19 then (qj.j0 k aa (aa == 19)) else (if aa = 20 then (qj.j0 k aa (aa == 20)) else (if aa = 21 then (qj.j0 k aa (aa == 21)) else (if aa = 22 then (qj.j0 k aa (aa == 22)) else (if aa = 9 then (qj.j0 k aa (aa == 9)) else (if aa = 10 then (qj.j0 k aa (aa == 10)) else (if aa = 26 then (qj.j0 k aa (aa == 26)) else (if aa = 27 then (qj.j0 k aa (aa == 27)) else (qj.j0 k aa (aa == 25))))))))))))))
theorem qj.mono_l : ∀ k, (∀ y0 y1, LeO (qj.j0 k y0 y1) (qj.j0 (k + 1) y0 y1)) ∧ (∀ y0 y1, LeO (qj.j1 k y0 y1) (qj.j1 (k + 1) y0 y1)) ∧ (∀ y0 y1, LeO (qj.j2 k y0 y1) (qj.j2 (k + 1) y0 y1))
 | 0 => ⟨fun _ _ r h => by simp [qj.j0] at h, fun _ _ r h => by simp [qj.j1] at h, fun _ _ r h => by simp [qj.j2] at h⟩
 | k + 1 => by
  obtain ⟨ac, ae, af⟩ := qj.mono_l k;refine ⟨?_, ?_, ?_⟩
  · intro y0 y1
    unfold qj.j0
    repeat' first
    | (with_reducible exact ac _ _)
    | (with_reducible exact ae _ _)
    | (with_reducible exact af _ _)
    | (with_reducible exact LeO.refl _)
    | (with_reducible exact LeO.none _)
    | (with_reducible refine LeO.ite ?_ ?_)
    | (with_reducible refine LeO.bind ?_ (fun _ => ?_))
    | exact ac _ _
    | exact ae _ _
    | exact af _ _
    | exact LeO.none _
    | refine LeO.ite ?_ ?_
    | refine LeO.bind ?_ (fun _ => ?_)
  · intro y0 y1
    unfold qj.j1
    repeat' first
    | (with_reducible exact ac _ _)
    | (with_reducible exact ae _ _)
    | (with_reducible exact af _ _)
    | (with_reducible exact LeO.refl _)
    | (with_reducible exact LeO.none _)
    | (with_reducible refine LeO.ite ?_ ?_)
    | (with_reducible refine LeO.bind ?_ (fun _ => ?_))
    | exact ac _ _
    | exact ae _ _
    | exact af _ _
    | exact LeO.none _
    | refine LeO.ite ?_ ?_
    | refine LeO.bind ?_ (fun _ => ?_)
  · intro y0 y1
    unfold qj.j2
    repeat' first
    | (with_reducible exact ac _ _)
    | (with_reducible exact ae _ _)
    | (with_reducible exact af _ _)
    | (with_reducible exact LeO.refl _)
    | (with_reducible exact LeO.none _)
    | (with_reducible refine LeO.ite ?_ ?_)
    | (with_reducible refine LeO.bind ?_ (fun _ => ?_))
    | exact ac _ _
    | exact ae _ _
    | exact af _ _
    | exact LeO.none _
    | refine LeO.ite ?_ ?_
    | refine LeO.bind ?_ (fun _ => ?_)
theorem qj.mono : ∀ a0 a1 a2 a3 a4 k, LeO (qj.f k a0 a1 a2 a3 a4) (qj.f (k + 1) a0 a1 a2 a3 a4) := by
 intro a0 a1 a2 a3 a4 k;obtain ⟨aa, ab, ac⟩ := qj.mono_l k;unfold qj.f
 repeat' first
  | (with_reducible exact aa _ _)
  | (with_reducible exact ab _ _)
  | (with_reducible exact ac _ _)
  | (with_reducible exact LeO.refl _)
  | (with_reducible exact LeO.none _)
  | (with_reducible refine LeO.ite ?_ ?_)
  | (with_reducible refine LeO.bind ?_ (fun _ => ?_))
  | exact aa _ _
  | exact ab _ _
  | exact ac _ _
  | exact LeO.none _
  | refine LeO.ite ?_ ?_
  | refine LeO.bind ?_ (fun _ => ?_)
set_option maxHeartbeats 8000000 in
set_option maxRecDepth 100000 in
theorem qj.calls (k : Nat) (aa : Int) (ag : Int) (ah : Int) (ai : ByteArray) (aj : Option Addr) (ak : Nat) (af : List (S130)) (r : Int) (w : World) (ef : Kd.C k130 w aj af.length af) (eg : af.length ≤ ak) (h : qj.f k aa ag ah ai af = some r) :
 Calls Tryz.prog 110 #[.agg #[.int .i64 aa, .int .i64 ag, .int .i64 ah, .string ai, .slice aj af.length ak]] w fun e w' => e = .returned (.int .i64 r) ∧ Below w.heap.size w w' := by
 have e3 := Tryz.underlying130;have eh := Aside0.mk ef;have ei := Aside0.mk eg;clear ef eg;have HB := Aside0.mk (Below.refl w.heap.size w);have H : (if aa = 24 then (some 1) else (if aa = 23 then (some 2) else (if aa = 8 then ((zc.f aa ag ah ai af).bind fun du => (if du = true then (some 4) else (some 3))) else (if aa = 17 then (qj.j0 k aa (aa == 17)) else (if aa = 18 then (qj.j0 k aa (aa == 18)) else (if aa = 19 then (qj.j0 k aa (aa == 19)) else (if aa = 20 then (qj.j0 k aa (aa == 20)) else (if aa = 21 then (qj.j0 k aa (aa == 21)) else (if aa = 22 then (qj.j0 k aa (aa == 22)) else (if aa = 9 then (qj.j0 k aa (aa == 9)) else (if aa = 10 then (qj.j0 k aa (aa == 10)) else (if aa = 26 then (qj.j0 k aa (aa == 26)) else (if aa = 27 then (qj.j0 k aa (aa == 27)) else (qj.j0 k aa (aa == 25))))))))))))))) = some r := h;clear h
 by_cases c2 : aa = 24
 · rw [if_pos c2] at H
   have dv : (aa == 24) = true := beq_iff_eq.mpr c2;have dw : (aa != 24) = false := bne_eq_false_iff_eq.mpr c2;clear c2;obtain rfl := Option.some.inj H
   go_enter Tryz.func110, Tryz.ntmps110
   go_wp2_with (first | ((with_reducible refine qU (N := 1) rfl ?_); refine qQ ?hg (N := 1) ?hd (cs := #[.int .i64 aa, .int .i64 ag, .int .i64 ah, .string ai, .slice aj af.length ak]) (t := 130) ?hr ?_; (case hd => rfl); (case hg => rfl); (case hr => first | (go_simp; done) | (go_simp; rfl)); intro ac hg w3 hbox hb; have ab := Aside0.mk (hbox); have b7 := Aside0.mk ((by rw [hg]; exact (qw (by repeat (first | (with_reducible first | exact HB.out | apply q8 | apply q9 | apply qb) | exact HB.out))) : w.heap.size ≤ ac)); have ae := Aside0.mk ((by rw [hg]; exact (qw (by repeat (first | (with_reducible first | exact HB.out | apply q8 | apply q9 | apply qb) | exact HB.out))) : w.heap.size ≤ ac)); replace HB := Aside0.mk (qr (by repeat (first | (with_reducible first | exact HB.out | apply q8 | apply q9 | apply qb) | exact HB.out)) hb); clear hb hbox hg; have cu : w3.cell? ⟨ac, 0, none⟩ = some (.int .i64 aa) := (qa ab.out 0).trans rfl; have cv : w3.cell? ⟨ac, 1, none⟩ = some (.int .i64 ag) := (qa ab.out 1).trans rfl; have cw : w3.cell? ⟨ac, 2, none⟩ = some (.int .i64 ah) := (qa ab.out 2).trans rfl; have cx : w3.cell? ⟨ac, 3, none⟩ = some (.string ai) := (qa ab.out 3).trans rfl; have cy : w3.cell? ⟨ac, 4, none⟩ = some (.slice aj af.length ak) := (qa ab.out 4).trans rfl; have cz := qc ab.out 0; have c6 := qc ab.out 1; have c7 := qc ab.out 2; have c9 := qc ab.out 3; have da := qc ab.out 4))
   go_ret
   exact ⟨by first | rfl | (simp [qm, qn] <;> rfl) | (simp [*, qm, qn] <;> rfl), by repeat (first | (with_reducible first | exact HB.out | apply q8 | apply q9 | apply qb | refine qg ?_ ae.out) | exact HB.out)⟩
 · rw [if_neg c2] at H
   have dv : (aa == 24) = false := beq_eq_false_iff_ne.mpr c2;have dw : (aa != 24) = true := bne_iff_ne.mpr c2
   by_cases c5 : aa = 23
   · rw [if_pos c5] at H
     have dx : (aa == 23) = true := beq_iff_eq.mpr c5;have dy : (aa != 23) = false := bne_eq_false_iff_eq.mpr c5;clear c5;obtain rfl := Option.some.inj H
     go_enter Tryz.func110, Tryz.ntmps110
     go_wp2_with (first | ((with_reducible refine qU (N := 1) rfl ?_); refine qQ ?hg (N := 1) ?hd (cs := #[.int .i64 aa, .int .i64 ag, .int .i64 ah, .string ai, .slice aj af.length ak]) (t := 130) ?hr ?_; (case hd => rfl); (case hg => rfl); (case hr => first | (go_simp; done) | (go_simp; rfl)); intro ac hg w6 hbox hb; have ab := Aside0.mk (hbox); have b7 := Aside0.mk ((by rw [hg]; exact (qw (by repeat (first | (with_reducible first | exact HB.out | apply q8 | apply q9 | apply qb) | exact HB.out))) : w.heap.size ≤ ac)); have ae := Aside0.mk ((by rw [hg]; exact (qw (by repeat (first | (with_reducible first | exact HB.out | apply q8 | apply q9 | apply qb) | exact HB.out))) : w.heap.size ≤ ac)); replace HB := Aside0.mk (qr (by repeat (first | (with_reducible first | exact HB.out | apply q8 | apply q9 | apply qb) | exact HB.out)) hb); clear hb hbox hg; have db : w6.cell? ⟨ac, 0, none⟩ = some (.int .i64 aa) := (qa ab.out 0).trans rfl; have dc : w6.cell? ⟨ac, 1, none⟩ = some (.int .i64 ag) := (qa ab.out 1).trans rfl; have dd : w6.cell? ⟨ac, 2, none⟩ = some (.int .i64 ah) := (qa ab.out 2).trans rfl; have de : w6.cell? ⟨ac, 3, none⟩ = some (.string ai) := (qa ab.out 3).trans rfl; have df : w6.cell? ⟨ac, 4, none⟩ = some (.slice aj af.length ak) := (qa ab.out 4).trans rfl; have dh := qc ab.out 0; have di := qc ab.out 1; have dj := qc ab.out 2; have dk := qc ab.out 3; have dl := qc ab.out 4))
     go_ret
     exact ⟨by first | rfl | (simp [qm, qn] <;> rfl) | (simp [*, qm, qn] <;> rfl), by repeat (first | (with_reducible first | exact HB.out | apply q8 | apply q9 | apply qb | refine qg ?_ ae.out) | exact HB.out)⟩
   · rw [if_neg c5] at H
     have dx : (aa == 23) = false := beq_eq_false_iff_ne.mpr c5;have dy : (aa != 23) = true := bne_iff_ne.mpr c5
     by_cases c8 : aa = 8
     · rw [if_pos c8] at H
       have dz : (aa == 8) = true := beq_iff_eq.mpr c8;have d0 : (aa != 8) = false := bne_eq_false_iff_eq.mpr c8;clear c8;replace H := Option.bind_eq_some_iff.mp H;obtain ⟨du, ev, H⟩ := H;replace H : (if du = true then (some 4) else (some 3)) = some r := H;have A9 := Aside0.mk ev;clear ev
       by_cases dm : du = true
       · subst dm
         have H1 : (some 4) = some r := by rw [if_pos rfl] at H; exact H
         clear H;have H := H1;clear H1;obtain rfl := Option.some.inj H
         go_enter Tryz.func110, Tryz.ntmps110
         go_wp2_with (first | ((with_reducible refine qU (N := 1) rfl ?_); refine qQ ?hg (N := 1) ?hd (cs := #[.int .i64 aa, .int .i64 ag, .int .i64 ah, .string ai, .slice aj af.length ak]) (t := 130) ?hr ?_; (case hd => rfl); (case hg => rfl); (case hr => first | (go_simp; done) | (go_simp; rfl)); intro ac hg d6 hbox hb; have ab := Aside0.mk (hbox); have b7 := Aside0.mk ((by rw [hg]; exact (qw (by repeat (first | (with_reducible first | exact HB.out | apply q8 | apply q9 | apply qb) | exact HB.out))) : w.heap.size ≤ ac)); have ae := Aside0.mk ((by rw [hg]; exact (qw (by repeat (first | (with_reducible first | exact HB.out | apply q8 | apply q9 | apply qb) | exact HB.out))) : w.heap.size ≤ ac)); replace HB := Aside0.mk (qr (by repeat (first | (with_reducible first | exact HB.out | apply q8 | apply q9 | apply qb) | exact HB.out)) hb); clear hb hbox hg; have a7 : d6.cell? ⟨ac, 0, none⟩ = some (.int .i64 aa) := (qa ab.out 0).trans rfl; have a8 : d6.cell? ⟨ac, 1, none⟩ = some (.int .i64 ag) := (qa ab.out 1).trans rfl; have a9 : d6.cell? ⟨ac, 2, none⟩ = some (.int .i64 ah) := (qa ab.out 2).trans rfl; have ba : d6.cell? ⟨ac, 3, none⟩ = some (.string ai) := (qa ab.out 3).trans rfl; have bb : d6.cell? ⟨ac, 4, none⟩ = some (.slice aj af.length ak) := (qa ab.out 4).trans rfl; have bc := qc ab.out 0; have bd := qc ab.out 1; have bf := qc ab.out 2; have bg := qc ab.out 3; have bh := qc ab.out 4) | ((with_reducible refine qI (f := 111) rfl ?_); refine zh (some 13) rfl rfl Tryz.func111 (by kernel_rfl) rfl #[.agg #[.int .i64 aa, .int .i64 ag, .int .i64 ah, .string ai, .slice aj af.length ak]] rfl (by (try simp only [List.map_toArray, List.map_cons, List.map_nil]); first | done | rfl | (simp only [List.length_drop, List.length_take]; rfl)) ?_; (with_reducible refine (zc.calls aa ag ah ai _ _ af true _ ?side1 ?side2 A9.out).mono ?_); (case side1 => repeat (first | exact (Kd.C_below eh.out HB.out) | (with_reducible refine Kd.C_alloc ?_ _) | (with_reducible refine Kd.C_drewN ?_ _) | (with_reducible refine Kd.C_drew ?_))); (case side2 => exact ei.out); rintro e e6 ⟨rfl, hb⟩; refine ⟨_, rfl, ?_⟩; replace ab := Aside0.mk (qF (g := ac) (o := .cells #[.int .i64 aa, .int .i64 ag, .int .i64 ah, .string ai, .slice aj af.length ak] 130 (0, 0)) (by (with_reducible repeat (first | refine qf ?_ _ | refine qh ?_ | refine qe ?_ _)); exact ab.out) hb); replace HB := Aside0.mk (qr (by repeat (first | (with_reducible first | exact HB.out | apply q8 | apply q9 | apply qb | refine qg ?_ ae.out) | exact HB.out)) hb); (try clear hb); (try clear ez); (try clear hk); (try clear hi)))
         go_ret
         exact ⟨by first | rfl | (simp [qm, qn] <;> rfl) | (simp [*, qm, qn] <;> rfl), by repeat (first | (with_reducible first | exact HB.out | apply q8 | apply q9 | apply qb | refine qg ?_ ae.out) | exact HB.out)⟩
       · replace dm := Bool.eq_false_iff.mpr dm
         subst dm
         have H1 : (some 3) = some r := by rw [if_neg (show ¬ (false = true) by decide)] at H; exact H
         clear H;have H := H1;clear H1;obtain rfl := Option.some.inj H
         go_enter Tryz.func110, Tryz.ntmps110
         go_wp2_with (first | ((with_reducible refine qU (N := 1) rfl ?_); refine qQ ?hg (N := 1) ?hd (cs := #[.int .i64 aa, .int .i64 ag, .int .i64 ah, .string ai, .slice aj af.length ak]) (t := 130) ?hr ?_; (case hd => rfl); (case hg => rfl); (case hr => first | (go_simp; done) | (go_simp; rfl)); intro ac hg d7 hbox hb; have ab := Aside0.mk (hbox); have b7 := Aside0.mk ((by rw [hg]; exact (qw (by repeat (first | (with_reducible first | exact HB.out | apply q8 | apply q9 | apply qb) | exact HB.out))) : w.heap.size ≤ ac)); have ae := Aside0.mk ((by rw [hg]; exact (qw (by repeat (first | (with_reducible first | exact HB.out | apply q8 | apply q9 | apply qb) | exact HB.out))) : w.heap.size ≤ ac)); replace HB := Aside0.mk (qr (by repeat (first | (with_reducible first | exact HB.out | apply q8 | apply q9 | apply qb) | exact HB.out)) hb); clear hb hbox hg; have bi : d7.cell? ⟨ac, 0, none⟩ = some (.int .i64 aa) := (qa ab.out 0).trans rfl; have bj : d7.cell? ⟨ac, 1, none⟩ = some (.int .i64 ag) := (qa ab.out 1).trans rfl; have bk : d7.cell? ⟨ac, 2, none⟩ = some (.int .i64 ah) := (qa ab.out 2).trans rfl; have bl : d7.cell? ⟨ac, 3, none⟩ = some (.string ai) := (qa ab.out 3).trans rfl; have bm : d7.cell? ⟨ac, 4, none⟩ = some (.slice aj af.length ak) := (qa ab.out 4).trans rfl; have bn := qc ab.out 0; have bo := qc ab.out 1; have bp := qc ab.out 2; have bq := qc ab.out 3; have br := qc ab.out 4) | ((with_reducible refine qI (f := 111) rfl ?_); refine zh (some 13) rfl rfl Tryz.func111 (by kernel_rfl) rfl #[.agg #[.int .i64 aa, .int .i64 ag, .int .i64 ah, .string ai, .slice aj af.length ak]] rfl (by (try simp only [List.map_toArray, List.map_cons, List.map_nil]); first | done | rfl | (simp only [List.length_drop, List.length_take]; rfl)) ?_; (with_reducible refine (zc.calls aa ag ah ai _ _ af false _ ?side1 ?side2 A9.out).mono ?_); (case side1 => repeat (first | exact (Kd.C_below eh.out HB.out) | (with_reducible refine Kd.C_alloc ?_ _) | (with_reducible refine Kd.C_drewN ?_ _) | (with_reducible refine Kd.C_drew ?_))); (case side2 => exact ei.out); rintro e e7 ⟨rfl, hb⟩; refine ⟨_, rfl, ?_⟩; replace ab := Aside0.mk (qF (g := ac) (o := .cells #[.int .i64 aa, .int .i64 ag, .int .i64 ah, .string ai, .slice aj af.length ak] 130 (0, 0)) (by (with_reducible repeat (first | refine qf ?_ _ | refine qh ?_ | refine qe ?_ _)); exact ab.out) hb); replace HB := Aside0.mk (qr (by repeat (first | (with_reducible first | exact HB.out | apply q8 | apply q9 | apply qb | refine qg ?_ ae.out) | exact HB.out)) hb); (try clear hb); (try clear ez); (try clear hk); (try clear hi)))
         go_ret
         exact ⟨by first | rfl | (simp [qm, qn] <;> rfl) | (simp [*, qm, qn] <;> rfl), by repeat (first | (with_reducible first | exact HB.out | apply q8 | apply q9 | apply qb | refine qg ?_ ae.out) | exact HB.out)⟩
     · rw [if_neg c8] at H
       have dz : (aa == 8) = false := beq_eq_false_iff_ne.mpr c8;have d0 : (aa != 8) = true := bne_iff_ne.mpr c8;have ea := Aside0.mk H;clear H
       go_enter Tryz.func110, Tryz.ntmps110
       go_upto_if 14 with (first | ((with_reducible refine qU (N := 1) rfl ?_); refine qQ ?hg (N := 1) ?hd (cs := #[.int .i64 aa, .int .i64 ag, .int .i64 ah, .string ai, .slice aj af.length ak]) (t := 130) ?hr ?_; (case hd => rfl); (case hg => rfl); (case hr => first | (go_simp; done) | (go_simp; rfl)); intro ac hg d8 hbox hb; have ab := Aside0.mk (hbox); have b7 := Aside0.mk ((by rw [hg]; exact (qw (by repeat (first | (with_reducible first | exact HB.out | apply q8 | apply q9 | apply qb) | exact HB.out))) : w.heap.size ≤ ac)); have ae := Aside0.mk ((by rw [hg]; exact (qw (by repeat (first | (with_reducible first | exact HB.out | apply q8 | apply q9 | apply qb) | exact HB.out))) : w.heap.size ≤ ac)); replace HB := Aside0.mk (qr (by repeat (first | (with_reducible first | exact HB.out | apply q8 | apply q9 | apply qb) | exact HB.out)) hb); clear hb hbox hg; have bs : d8.cell? ⟨ac, 0, none⟩ = some (.int .i64 aa) := (qa ab.out 0).trans rfl; have bu : d8.cell? ⟨ac, 1, none⟩ = some (.int .i64 ag) := (qa ab.out 1).trans rfl; have bv : d8.cell? ⟨ac, 2, none⟩ = some (.int .i64 ah) := (qa ab.out 2).trans rfl; have bw : d8.cell? ⟨ac, 3, none⟩ = some (.string ai) := (qa ab.out 3).trans rfl; have bz : d8.cell? ⟨ac, 4, none⟩ = some (.slice aj af.length ak) := (qa ab.out 4).trans rfl; have b0 := qc ab.out 0; have b1 := qc ab.out 1; have b2 := qc ab.out 2; have b3 := qc ab.out 3; have b4 := qc ab.out 4))
       (try simp only [Act.put, List.setIfInBounds_toArray, List.set_cons_zero, List.set_cons_succ])
       go_cut [14] (fun e0 wc => ∃ (kq : Nat) (a3 : Bool), e0 = .bool a3 ∧ Aside0 (qj.j0 kq aa a3 = some r) ∧ Aside0 (kq ≤ k) ∧ Aside0 (wc.heap[ac]? = some (.cells #[.int .i64 aa, .int .i64 ag, .int .i64 ah, .string ai, (.slice aj af.length ak)] 130 (0, 0))) ∧ Aside0 (Below w.heap.size w wc))
       case first =>
        have H := ea.out;clear ea
        by_cases ap : aa = 17
        · rw [if_pos ap] at H
          have am : (aa == 17) = true := beq_iff_eq.mpr ap;have b8 : (aa != 17) = false := bne_eq_false_iff_eq.mpr ap;clear ap
          (first | rw [am] | (simp only [qH, qK]; rw [am]) | skip)
          have H' := Aside0.mk H;clear H;go_wp2;go_meet
          case rel => exact ⟨_, ((aa == 17)), (by first | rfl | (simp; done) | (simp [*]; done)), H', ⟨by first | omega | exact Nat.le_refl _⟩, ⟨by (with_reducible repeat (first | refine qf ?_ _ | refine qh ?_ | refine qe ?_ _)); exact ab.out⟩, ⟨by repeat (first | (with_reducible first | exact HB.out | apply q8 | apply q9 | apply qb | refine qg ?_ ae.out) | exact HB.out)⟩⟩
        · rw [if_neg ap] at H
          have am : (aa == 17) = false := beq_eq_false_iff_ne.mpr ap;have b8 : (aa != 17) = true := bne_iff_ne.mpr ap
          (first | rw [am] | (simp only [qH, qK]; rw [am]) | skip)
          by_cases au : aa = 18
          · rw [if_pos au] at H
            have b9 : (aa == 18) = true := beq_iff_eq.mpr au;have cb : (aa != 18) = false := bne_eq_false_iff_eq.mpr au;clear au;have H' := Aside0.mk H;clear H;go_wp2;go_meet
            case rel => exact ⟨_, ((aa == 18)), (by first | rfl | (simp; done) | (simp [*]; done)), H', ⟨by first | omega | exact Nat.le_refl _⟩, ⟨by (with_reducible repeat (first | refine qf ?_ _ | refine qh ?_ | refine qe ?_ _)); exact ab.out⟩, ⟨by repeat (first | (with_reducible first | exact HB.out | apply q8 | apply q9 | apply qb | refine qg ?_ ae.out) | exact HB.out)⟩⟩
          · rw [if_neg au] at H
            have b9 : (aa == 18) = false := beq_eq_false_iff_ne.mpr au;have cb : (aa != 18) = true := bne_iff_ne.mpr au
            by_cases av : aa = 19
            · rw [if_pos av] at H
              have cc : (aa == 19) = true := beq_iff_eq.mpr av;have cd : (aa != 19) = false := bne_eq_false_iff_eq.mpr av;clear av;have H' := Aside0.mk H;clear H;go_wp2;go_meet
              case rel => exact ⟨_, ((aa == 19)), (by first | rfl | (simp; done) | (simp [*]; done)), H', ⟨by first | omega | exact Nat.le_refl _⟩, ⟨by (with_reducible repeat (first | refine qf ?_ _ | refine qh ?_ | refine qe ?_ _)); exact ab.out⟩, ⟨by repeat (first | (with_reducible first | exact HB.out | apply q8 | apply q9 | apply qb | refine qg ?_ ae.out) | exact HB.out)⟩⟩
            · rw [if_neg av] at H
              have cc : (aa == 19) = false := beq_eq_false_iff_ne.mpr av;have cd : (aa != 19) = true := bne_iff_ne.mpr av
              by_cases aw : aa = 20
              · rw [if_pos aw] at H
                have ce : (aa == 20) = true := beq_iff_eq.mpr aw;have cf : (aa != 20) = false := bne_eq_false_iff_eq.mpr aw;clear aw;have H' := Aside0.mk H;clear H;go_wp2;go_meet
                case rel => exact ⟨_, ((aa == 20)), (by first | rfl | (simp; done) | (simp [*]; done)), H', ⟨by first | omega | exact Nat.le_refl _⟩, ⟨by (with_reducible repeat (first | refine qf ?_ _ | refine qh ?_ | refine qe ?_ _)); exact ab.out⟩, ⟨by repeat (first | (with_reducible first | exact HB.out | apply q8 | apply q9 | apply qb | refine qg ?_ ae.out) | exact HB.out)⟩⟩
              · rw [if_neg aw] at H
                have ce : (aa == 20) = false := beq_eq_false_iff_ne.mpr aw;have cf : (aa != 20) = true := bne_iff_ne.mpr aw
                by_cases ax : aa = 21
                · rw [if_pos ax] at H
                  have cg : (aa == 21) = true := beq_iff_eq.mpr ax;have ch : (aa != 21) = false := bne_eq_false_iff_eq.mpr ax;clear ax;have H' := Aside0.mk H;clear H;go_wp2;go_meet
                  case rel => exact ⟨_, ((aa == 21)), (by first | rfl | (simp; done) | (simp [*]; done)), H', ⟨by first | omega | exact Nat.le_refl _⟩, ⟨by (with_reducible repeat (first | refine qf ?_ _ | refine qh ?_ | refine qe ?_ _)); exact ab.out⟩, ⟨by repeat (first | (with_reducible first | exact HB.out | apply q8 | apply q9 | apply qb | refine qg ?_ ae.out) | exact HB.out)⟩⟩
                · rw [if_neg ax] at H
                  have cg : (aa == 21) = false := beq_eq_false_iff_ne.mpr ax;have ch : (aa != 21) = true := bne_iff_ne.mpr ax
                  by_cases ay : aa = 22
                  · rw [if_pos ay] at H
                    have ci : (aa == 22) = true := beq_iff_eq.mpr ay;have cj : (aa != 22) = false := bne_eq_false_iff_eq.mpr ay;clear ay;have H' := Aside0.mk H;clear H;go_wp2;go_meet
                    case rel => exact ⟨_, ((aa == 22)), (by first | rfl | (simp; done) | (simp [*]; done)), H', ⟨by first | omega | exact Nat.le_refl _⟩, ⟨by (with_reducible repeat (first | refine qf ?_ _ | refine qh ?_ | refine qe ?_ _)); exact ab.out⟩, ⟨by repeat (first | (with_reducible first | exact HB.out | apply q8 | apply q9 | apply qb | refine qg ?_ ae.out) | exact HB.out)⟩⟩
                  · rw [if_neg ay] at H
                    have ci : (aa == 22) = false := beq_eq_false_iff_ne.mpr ay;have cj : (aa != 22) = true := bne_iff_ne.mpr ay
                    by_cases az : aa = 9
                    · rw [if_pos az] at H
                      have ck : (aa == 9) = true := beq_iff_eq.mpr az;have cm : (aa != 9) = false := bne_eq_false_iff_eq.mpr az;clear az;have H' := Aside0.mk H;clear H;go_wp2;go_meet
                      case rel => exact ⟨_, ((aa == 9)), (by first | rfl | (simp; done) | (simp [*]; done)), H', ⟨by first | omega | exact Nat.le_refl _⟩, ⟨by (with_reducible repeat (first | refine qf ?_ _ | refine qh ?_ | refine qe ?_ _)); exact ab.out⟩, ⟨by repeat (first | (with_reducible first | exact HB.out | apply q8 | apply q9 | apply qb | refine qg ?_ ae.out) | exact HB.out)⟩⟩
                    · rw [if_neg az] at H
                      have ck : (aa == 9) = false := beq_eq_false_iff_ne.mpr az;have cm : (aa != 9) = true := bne_iff_ne.mpr az
                      by_cases a0 : aa = 10
                      · rw [if_pos a0] at H
                        have cn : (aa == 10) = true := beq_iff_eq.mpr a0;have co : (aa != 10) = false := bne_eq_false_iff_eq.mpr a0;clear a0;have H' := Aside0.mk H;clear H;go_wp2;go_meet
                        case rel => exact ⟨_, ((aa == 10)), (by first | rfl | (simp; done) | (simp [*]; done)), H', ⟨by first | omega | exact Nat.le_refl _⟩, ⟨by (with_reducible repeat (first | refine qf ?_ _ | refine qh ?_ | refine qe ?_ _)); exact ab.out⟩, ⟨by repeat (first | (with_reducible first | exact HB.out | apply q8 | apply q9 | apply qb | refine qg ?_ ae.out) | exact HB.out)⟩⟩
                      · rw [if_neg a0] at H
                        have cn : (aa == 10) = false := beq_eq_false_iff_ne.mpr a0;have co : (aa != 10) = true := bne_iff_ne.mpr a0
                        by_cases a1 : aa = 26
                        · rw [if_pos a1] at H
                          have cp : (aa == 26) = true := beq_iff_eq.mpr a1;have cq : (aa != 26) = false := bne_eq_false_iff_eq.mpr a1;clear a1;have H' := Aside0.mk H;clear H;go_wp2;go_meet
                          case rel => exact ⟨_, ((aa == 26)), (by first | rfl | (simp; done) | (simp [*]; done)), H', ⟨by first | omega | exact Nat.le_refl _⟩, ⟨by (with_reducible repeat (first | refine qf ?_ _ | refine qh ?_ | refine qe ?_ _)); exact ab.out⟩, ⟨by repeat (first | (with_reducible first | exact HB.out | apply q8 | apply q9 | apply qb | refine qg ?_ ae.out) | exact HB.out)⟩⟩
                        · rw [if_neg a1] at H
                          have cp : (aa == 26) = false := beq_eq_false_iff_ne.mpr a1;have cq : (aa != 26) = true := bne_iff_ne.mpr a1
                          by_cases a2 : aa = 27
                          · rw [if_pos a2] at H
                            have cr : (aa == 27) = true := beq_iff_eq.mpr a2;have ct : (aa != 27) = false := bne_eq_false_iff_eq.mpr a2;clear a2;have H' := Aside0.mk H;clear H;go_wp2;go_meet
                            case rel => exact ⟨_, ((aa == 27)), (by first | rfl | (simp; done) | (simp [*]; done)), H', ⟨by first | omega | exact Nat.le_refl _⟩, ⟨by (with_reducible repeat (first | refine qf ?_ _ | refine qh ?_ | refine qe ?_ _)); exact ab.out⟩, ⟨by repeat (first | (with_reducible first | exact HB.out | apply q8 | apply q9 | apply qb | refine qg ?_ ae.out) | exact HB.out)⟩⟩
                          · rw [if_neg a2] at H
                            have cr : (aa == 27) = false := beq_eq_false_iff_ne.mpr a2;have ct : (aa != 27) = true := bne_iff_ne.mpr a2;have H' := Aside0.mk H;clear H;go_wp2;go_meet
                            case rel => exact ⟨_, ((aa == 25)), (by first | rfl | (simp; done) | (simp [*]; done)), H', ⟨by first | omega | exact Nat.le_refl _⟩, ⟨by (with_reducible repeat (first | refine qf ?_ _ | refine qh ?_ | refine qe ?_ _)); exact ab.out⟩, ⟨by repeat (first | (with_reducible first | exact HB.out | apply q8 | apply q9 | apply qb | refine qg ?_ ae.out) | exact HB.out)⟩⟩
       case rest =>
        clear ea
        (try clear c1); (try clear c2); (try clear dv); (try clear dw); (try clear p2); (try clear c5); (try clear dx); (try clear dy); (try clear c8); (try clear dz); (try clear d0); (try clear dm); (try clear ew); (try clear ap); (try clear am); (try clear b8); (try clear au); (try clear b9); (try clear cb); (try clear av); (try clear cc); (try clear cd); (try clear aw); (try clear ce); (try clear cf); (try clear ax); (try clear cg); (try clear ch); (try clear ay); (try clear ci); (try clear cj); (try clear az); (try clear ck); (try clear cm); (try clear a0); (try clear cn); (try clear co); (try clear a1); (try clear cp); (try clear cq); (try clear a2); (try clear cr); (try clear ct); (try clear a7); (try clear a8); (try clear a9); (try clear ba); (try clear bb); (try clear bi); (try clear bj); (try clear bk); (try clear bl); (try clear bm); (try clear bs); (try clear bu); (try clear bv); (try clear bw); (try clear bz); (try clear cu); (try clear cv); (try clear cw); (try clear cx); (try clear cy); (try clear db); (try clear dc); (try clear dd); (try clear de); (try clear df); (try clear bc); (try clear bd); (try clear bf); (try clear bg); (try clear bh); (try clear bn); (try clear bo); (try clear bp); (try clear bq); (try clear br); (try clear b0); (try clear b1); (try clear b2); (try clear b3); (try clear b4); (try clear cz); (try clear c6); (try clear c7); (try clear c9); (try clear da); (try clear dh); (try clear di); (try clear dj); (try clear dk); (try clear dl)
        obtain ⟨kq, a3, rfl, HA, dn, ab, HB⟩ := hcut
        cases kq with
        | zero => exact absurd HA.out (by simp [qj.j0])
        | succ eb =>
         have H := HA.out;clear HA;simp only [qj.j0] at H
         by_cases c30 : a3 = true
         · subst c30
           have H1 : (some 4) = some r := by rw [if_pos rfl] at H; exact H
           clear H;have H := H1;clear H1;obtain rfl := Option.some.inj H;go_wp2
           go_ret
           exact ⟨by first | rfl | (simp [qm, qn] <;> rfl) | (simp [*, qm, qn] <;> rfl), by repeat (first | (with_reducible first | exact HB.out | apply q8 | apply q9 | apply qb | refine qg ?_ ae.out) | exact HB.out)⟩
         · replace c30 := Bool.eq_false_iff.mpr c30
           subst c30
           have H1 : (if aa = 16 then (some 5) else (if aa = 11 then (qj.j1 eb aa (aa == 11)) else (qj.j1 eb aa (aa == 12)))) = some r := by rw [if_neg (show ¬ (false = true) by decide)] at H; exact H
           clear H;have H := H1;clear H1
           by_cases c31 : aa = 16
           · rw [if_pos c31] at H
             have d1 : (aa == 16) = true := beq_iff_eq.mpr c31;have d3 : (aa != 16) = false := bne_eq_false_iff_eq.mpr c31;clear c31;obtain rfl := Option.some.inj H;go_wp2
             go_ret
             exact ⟨by first | rfl | (simp [qm, qn] <;> rfl) | (simp [*, qm, qn] <;> rfl), by repeat (first | (with_reducible first | exact HB.out | apply q8 | apply q9 | apply qb | refine qg ?_ ae.out) | exact HB.out)⟩
           · rw [if_neg c31] at H
             have d1 : (aa == 16) = false := beq_eq_false_iff_ne.mpr c31;have d3 : (aa != 16) = true := bne_iff_ne.mpr c31;have ec := Aside0.mk H;clear H
             go_upto_if 28 with (fail)
             go_cut [28] (fun e1 wc => ∃ (kq : Nat) (a4 : Bool), e1 = .bool a4 ∧ Aside0 (qj.j1 kq aa a4 = some r) ∧ Aside0 (kq ≤ eb) ∧ Aside0 (wc.heap[ac]? = some (.cells #[.int .i64 aa, .int .i64 ag, .int .i64 ah, .string ai, (.slice aj af.length ak)] 130 (0, 0))) ∧ Aside0 (Below w.heap.size w wc))
             case first =>
              have H := ec.out;clear ec
              by_cases a5 : aa = 11
              · rw [if_pos a5] at H
                have an : (aa == 11) = true := beq_iff_eq.mpr a5;have d4 : (aa != 11) = false := bne_eq_false_iff_eq.mpr a5;clear a5
                (first | rw [an] | (simp only [qH, qK]; rw [an]) | skip)
                have H' := Aside0.mk H;clear H;go_wp2;go_meet
                case rel => exact ⟨_, ((aa == 11)), (by first | rfl | (simp; done) | (simp [*]; done)), H', ⟨by have := dn.out; first | omega | exact Nat.le_refl _⟩, ⟨by (with_reducible repeat (first | refine qf ?_ _ | refine qh ?_ | refine qe ?_ _)); exact ab.out⟩, ⟨by repeat (first | (with_reducible first | exact HB.out | apply q8 | apply q9 | apply qb | refine qg ?_ ae.out) | exact HB.out)⟩⟩
              · rw [if_neg a5] at H
                have an : (aa == 11) = false := beq_eq_false_iff_ne.mpr a5;have d4 : (aa != 11) = true := bne_iff_ne.mpr a5
                (first | rw [an] | (simp only [qH, qK]; rw [an]) | skip)
                have H' := Aside0.mk H;clear H;go_wp2;go_meet
                case rel => exact ⟨_, ((aa == 12)), (by first | rfl | (simp; done) | (simp [*]; done)), H', ⟨by have := dn.out; first | omega | exact Nat.le_refl _⟩, ⟨by (with_reducible repeat (first | refine qf ?_ _ | refine qh ?_ | refine qe ?_ _)); exact ab.out⟩, ⟨by repeat (first | (with_reducible first | exact HB.out | apply q8 | apply q9 | apply qb | refine qg ?_ ae.out) | exact HB.out)⟩⟩
             case rest =>
              clear ec
              (try clear c1); (try clear c2); (try clear dv); (try clear dw); (try clear p2); (try clear c3); (try clear c5); (try clear dx); (try clear dy); (try clear c8); (try clear dz); (try clear d0); (try clear dm); (try clear ew); (try clear ap); (try clear am); (try clear b8); (try clear au); (try clear b9); (try clear cb); (try clear av); (try clear cc); (try clear cd); (try clear aw); (try clear ce); (try clear cf); (try clear ax); (try clear cg); (try clear ch); (try clear ay); (try clear ci); (try clear cj); (try clear az); (try clear ck); (try clear cm); (try clear a0); (try clear cn); (try clear co); (try clear a1); (try clear cp); (try clear cq); (try clear a2); (try clear cr); (try clear ct); (try clear c30); (try clear c31); (try clear d1); (try clear d3); (try clear a5); (try clear an); (try clear d4); (try clear a7); (try clear a8); (try clear a9); (try clear ba); (try clear bb); (try clear bi); (try clear bj); (try clear bk); (try clear bl); (try clear bm); (try clear bs); (try clear bu); (try clear bv); (try clear bw); (try clear bz); (try clear cu); (try clear cv); (try clear cw); (try clear cx); (try clear cy); (try clear db); (try clear dc); (try clear dd); (try clear de); (try clear df); (try clear bc); (try clear bd); (try clear bf); (try clear bg); (try clear bh); (try clear bn); (try clear bo); (try clear bp); (try clear bq); (try clear br); (try clear b0); (try clear b1); (try clear b2); (try clear b3); (try clear b4); (try clear cz); (try clear c6); (try clear c7); (try clear c9); (try clear da); (try clear dh); (try clear di); (try clear dj); (try clear dk); (try clear dl); (try clear p2)
              obtain ⟨kq, a4, rfl, HA, ed, ab, HB⟩ := hcut
              cases kq with
              | zero => exact absurd HA.out (by simp [qj.j1])
              | succ d5 =>
               have H := HA.out;clear HA;simp only [qj.j1] at H
               by_cases d9 : a4 = true
               · subst d9
                 have H1 : (some 6) = some r := by rw [if_pos rfl] at H; exact H
                 clear H;have H := H1;clear H1;obtain rfl := Option.some.inj H;go_wp2
                 go_ret
                 exact ⟨by first | rfl | (simp [qm, qn] <;> rfl) | (simp [*, qm, qn] <;> rfl), by repeat (first | (with_reducible first | exact HB.out | apply q8 | apply q9 | apply qb | refine qg ?_ ae.out) | exact HB.out)⟩
               · replace d9 := Bool.eq_false_iff.mpr d9
                 subst d9
                 have H1 : (if aa = 13 then (qj.j2 d5 aa (aa == 13)) else (if aa = 14 then (qj.j2 d5 aa (aa == 14)) else (qj.j2 d5 aa (aa == 15)))) = some r := by rw [if_neg (show ¬ (false = true) by decide)] at H; exact H
                 clear H;have H := H1;clear H1;have ee := Aside0.mk H;clear H
                 go_upto_if 31 with (fail)
                 go_cut [31] (fun e2 wc => ∃ (kq : Nat) (a6 : Bool), e2 = .bool a6 ∧ Aside0 (qj.j2 kq aa a6 = some r) ∧ Aside0 (kq ≤ d5) ∧ Aside0 (wc.heap[ac]? = some (.cells #[.int .i64 aa, .int .i64 ag, .int .i64 ah, .string ai, (.slice aj af.length ak)] 130 (0, 0))) ∧ Aside0 (Below w.heap.size w wc))
                 case first =>
                  have H := ee.out;clear ee
                  by_cases b5 : aa = 13
                  · rw [if_pos b5] at H
                    have ao : (aa == 13) = true := beq_iff_eq.mpr b5;have ej : (aa != 13) = false := bne_eq_false_iff_eq.mpr b5;clear b5
                    (first | rw [ao] | (simp only [qH, qK]; rw [ao]) | skip)
                    have H' := Aside0.mk H;clear H;go_wp2;go_meet
                    case rel => exact ⟨_, ((aa == 13)), (by first | rfl | (simp; done) | (simp [*]; done)), H', ⟨by have := dn.out; have := ed.out; first | omega | exact Nat.le_refl _⟩, ⟨by (with_reducible repeat (first | refine qf ?_ _ | refine qh ?_ | refine qe ?_ _)); exact ab.out⟩, ⟨by repeat (first | (with_reducible first | exact HB.out | apply q8 | apply q9 | apply qb | refine qg ?_ ae.out) | exact HB.out)⟩⟩
                  · rw [if_neg b5] at H
                    have ao : (aa == 13) = false := beq_eq_false_iff_ne.mpr b5;have ej : (aa != 13) = true := bne_iff_ne.mpr b5
                    (first | rw [ao] | (simp only [qH, qK]; rw [ao]) | skip)
                    by_cases b6 : aa = 14
                    · rw [if_pos b6] at H
                      have ek : (aa == 14) = true := beq_iff_eq.mpr b6;have em : (aa != 14) = false := bne_eq_false_iff_eq.mpr b6;clear b6;have H' := Aside0.mk H;clear H;go_wp2;go_meet
                      case rel => exact ⟨_, ((aa == 14)), (by first | rfl | (simp; done) | (simp [*]; done)), H', ⟨by have := dn.out; have := ed.out; first | omega | exact Nat.le_refl _⟩, ⟨by (with_reducible repeat (first | refine qf ?_ _ | refine qh ?_ | refine qe ?_ _)); exact ab.out⟩, ⟨by repeat (first | (with_reducible first | exact HB.out | apply q8 | apply q9 | apply qb | refine qg ?_ ae.out) | exact HB.out)⟩⟩
                    · rw [if_neg b6] at H
                      have ek : (aa == 14) = false := beq_eq_false_iff_ne.mpr b6;have em : (aa != 14) = true := bne_iff_ne.mpr b6;have H' := Aside0.mk H;clear H;go_wp2;go_meet
                      case rel => exact ⟨_, ((aa == 15)), (by first | rfl | (simp; done) | (simp [*]; done)), H', ⟨by have := dn.out; have := ed.out; first | omega | exact Nat.le_refl _⟩, ⟨by (with_reducible repeat (first | refine qf ?_ _ | refine qh ?_ | refine qe ?_ _)); exact ab.out⟩, ⟨by repeat (first | (with_reducible first | exact HB.out | apply q8 | apply q9 | apply qb | refine qg ?_ ae.out) | exact HB.out)⟩⟩
                 case rest =>
                  clear ee
                  (try clear c1); (try clear c2); (try clear dv); (try clear dw); (try clear p2); (try clear c3); (try clear c5); (try clear dx); (try clear dy); (try clear c8); (try clear dz); (try clear d0); (try clear dm); (try clear ew); (try clear ap); (try clear am); (try clear b8); (try clear au); (try clear b9); (try clear cb); (try clear av); (try clear cc); (try clear cd); (try clear aw); (try clear ce); (try clear cf); (try clear ax); (try clear cg); (try clear ch); (try clear ay); (try clear ci); (try clear cj); (try clear az); (try clear ck); (try clear cm); (try clear a0); (try clear cn); (try clear co); (try clear a1); (try clear cp); (try clear cq); (try clear a2); (try clear cr); (try clear ct); (try clear c30); (try clear c31); (try clear d1); (try clear d3); (try clear a5); (try clear an); (try clear d4); (try clear d9); (try clear b5); (try clear ao); (try clear ej); (try clear b6); (try clear ek); (try clear em); (try clear a7); (try clear a8); (try clear a9); (try clear ba); (try clear bb); (try clear bi); (try clear bj); (try clear bk); (try clear bl); (try clear bm); (try clear bs); (try clear bu); (try clear bv); (try clear bw); (try clear bz); (try clear cu); (try clear cv); (try clear cw); (try clear cx); (try clear cy); (try clear db); (try clear dc); (try clear dd); (try clear de); (try clear df); (try clear bc); (try clear bd); (try clear bf); (try clear bg); (try clear bh); (try clear bn); (try clear bo); (try clear bp); (try clear bq); (try clear br); (try clear b0); (try clear b1); (try clear b2); (try clear b3); (try clear b4); (try clear cz); (try clear c6); (try clear c7); (try clear c9); (try clear da); (try clear dh); (try clear di); (try clear dj); (try clear dk); (try clear dl); (try clear p2)
                  obtain ⟨kq, a6, rfl, HA, e4, ab, HB⟩ := hcut
                  cases kq with
                  | zero => exact absurd HA.out (by simp [qj.j2])
                  | succ e5 =>
                   have H := HA.out;clear HA;simp only [qj.j2] at H
                   by_cases en : a6 = true
                   · subst en
                     have H1 : (some 7) = some r := by rw [if_pos rfl] at H; exact H
                     clear H;have H := H1;clear H1;obtain rfl := Option.some.inj H;go_wp2
                     go_ret
                     exact ⟨by first | rfl | (simp [qm, qn] <;> rfl) | (simp [*, qm, qn] <;> rfl), by repeat (first | (with_reducible first | exact HB.out | apply q8 | apply q9 | apply qb | refine qg ?_ ae.out) | exact HB.out)⟩
                   · replace en := Bool.eq_false_iff.mpr en
                     subst en
                     have H1 : (if aa = 7 then (some 8) else (some 9)) = some r := by rw [if_neg (show ¬ (false = true) by decide)] at H; exact H
                     clear H;have H := H1;clear H1
                     by_cases dq : aa = 7
                     · rw [if_pos dq] at H
                       have et : (aa == 7) = true := beq_iff_eq.mpr dq;have eu : (aa != 7) = false := bne_eq_false_iff_eq.mpr dq;clear dq;obtain rfl := Option.some.inj H;go_wp2
                       go_ret
                       exact ⟨by first | rfl | (simp [qm, qn] <;> rfl) | (simp [*, qm, qn] <;> rfl), by repeat (first | (with_reducible first | exact HB.out | apply q8 | apply q9 | apply qb | refine qg ?_ ae.out) | exact HB.out)⟩
                     · rw [if_neg dq] at H
                       have et : (aa == 7) = false := beq_eq_false_iff_ne.mpr dq;have eu : (aa != 7) = true := bne_iff_ne.mpr dq;obtain rfl := Option.some.inj H;go_wp2
                       go_ret
                       exact ⟨by first | rfl | (simp [qm, qn] <;> rfl) | (simp [*, qm, qn] <;> rfl), by repeat (first | (with_reducible first | exact HB.out | apply q8 | apply q9 | apply qb | refine qg ?_ ae.out) | exact HB.out)⟩
end Go.Proofs.YtfmgbgkcmmpcfaaGreatDoor.PTk

