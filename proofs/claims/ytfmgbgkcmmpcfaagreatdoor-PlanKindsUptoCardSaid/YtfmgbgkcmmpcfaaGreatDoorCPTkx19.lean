import Derived.Test.YtfmgbgkcmmpcfaaGreatDoorCPTkx0
import Derived.Test.YtfmgbgkcmmpcfaaGreatDoorCPTkx18
namespace Go.Proofs.YtfmgbgkcmmpcfaaGreatDoor.PTk
open Go.RowKit Go.Proofs.YtfmgbgkcmmpcfaaGreatDoorW.PrintWords Go.Proofs.YtfmgbgkcmmpcfaaGreatDoorW.PrintLast Go.Proofs.YtfmgbgkcmmpcfaaGreatDoorW.PrintMore
attribute [local go_sem] zp zC
set_option linter.unusedVariables false
set_option linter.unusedSimpArgs false
def zn.f (a0 : Int) : Option (Bool) := if a0 = 1 then (some true) else (if a0 = 2 then (some true) else (some (a0 == 3)))
set_option maxHeartbeats 8000000 in
set_option maxRecDepth 100000 in
theorem zn.calls (a0 : Int) (r : Bool) (w : World) (h : zn.f a0 = some r) :
 Calls Tryz.prog 73 #[.int .i64 a0] w fun e w' => e = .returned (.bool r) ∧ qt w w' := by
 have H : (if a0 = 1 then (some true) else (if a0 = 2 then (some true) else (some (a0 == 3)))) = some r := h;clear h
 by_cases c2 : a0 = 1
 · rw [if_pos c2] at H
   have ab : (a0 == 1) = true := beq_iff_eq.mpr c2;have ac : (a0 != 1) = false := bne_eq_false_iff_eq.mpr c2;clear c2;obtain rfl := Option.some.inj H
   go_enter Tryz.func73, Tryz.ntmps73
   go_wp2
   go_ret
   exact ⟨by first | rfl | (simp; done) | (simp [*]; done), by repeat (first | exact qt.refl _ | apply qt.step)⟩
 · rw [if_neg c2] at H
   have ab : (a0 == 1) = false := beq_eq_false_iff_ne.mpr c2;have ac : (a0 != 1) = true := bne_iff_ne.mpr c2
   by_cases c3 : a0 = 2
   · rw [if_pos c3] at H
     have ae : (a0 == 2) = true := beq_iff_eq.mpr c3;have af : (a0 != 2) = false := bne_eq_false_iff_eq.mpr c3;clear c3;obtain rfl := Option.some.inj H
     go_enter Tryz.func73, Tryz.ntmps73
     go_wp2
     go_ret
     exact ⟨by first | rfl | (simp; done) | (simp [*]; done), by repeat (first | exact qt.refl _ | apply qt.step)⟩
   · rw [if_neg c3] at H
     have ae : (a0 == 2) = false := beq_eq_false_iff_ne.mpr c3;have af : (a0 != 2) = true := bne_iff_ne.mpr c3;obtain rfl := Option.some.inj H
     go_enter Tryz.func73, Tryz.ntmps73
     go_wp2
     go_ret
     exact ⟨by first | rfl | (simp; done) | (simp [*]; done), by repeat (first | exact qt.refl _ | apply qt.step)⟩
def zK.f (k : Nat) (aa : Int) (ag : Int) (ah : Int) (ae : ByteArray) (l1 : List (S93)) : Option (Int × Int) := if aa = 1 then (some (2, 0)) else (if aa = 2 then (some (3, 0)) else (if aa = 3 then (some (0, 0)) else (if aa = 4 then (some (1, 0)) else (if aa = 5 then (some (1, 0)) else ((qT.f k l1 ae).bind fun ab => (if ab < 0 then (some (0, 162)) else (if 0 ≤ ab then (if ab < (l1.length : Int) then ((zn.f ((zr l1 ab).f1)).bind fun af => (if af = true then (some ((zr l1 ab).f1, 0)) else (some (0, 163)))) else (none)) else (none))))))))
set_option maxHeartbeats 8000000 in
set_option maxRecDepth 100000 in
theorem zK.calls (k : Nat) (ac : Int) (ah : Int) (ai : Int) (af : ByteArray) (A1 : Option Addr) (c1 : Nat) (l1 : List (S93)) (r1 : Int) (r2 : Int) (w : World) (b1 : Kd.C k93 w A1 l1.length l1) (b2 : l1.length ≤ c1) (h : zK.f k ac ah ai af l1 = some (r1, r2)) :
 Calls Tryz.prog 34 #[.agg #[.int .i64 ac, .int .i64 ah, .int .i64 ai, .string af], .slice A1 l1.length c1] w fun e w' => e = .returned (.tuple #[.int .i64 r1, .int .i64 r2]) ∧ Below w.heap.size w w' := by
 have ek := Tryz.underlying86;have a0 := Aside0.mk b1;have bl := Aside0.mk b2;clear b1 b2;have HB := Aside0.mk (Below.refl w.heap.size w);have H : (if ac = 1 then (some (2, 0)) else (if ac = 2 then (some (3, 0)) else (if ac = 3 then (some (0, 0)) else (if ac = 4 then (some (1, 0)) else (if ac = 5 then (some (1, 0)) else ((qT.f k l1 af).bind fun ae => (if ae < 0 then (some (0, 162)) else (if 0 ≤ ae then (if ae < (l1.length : Int) then ((zn.f ((zr l1 ae).f1)).bind fun au => (if au = true then (some ((zr l1 ae).f1, 0)) else (some (0, 163)))) else (none)) else (none))))))))) = some (r1, r2) := h;clear h
 by_cases c3 : ac = 1
 · rw [if_pos c3] at H
   have b4 : (ac == 1) = true := beq_iff_eq.mpr c3;have b5 : (ac != 1) = false := bne_eq_false_iff_eq.mpr c3;clear c3;simp only [Option.some.injEq, Prod.mk.injEq] at H;obtain ⟨rfl, rfl⟩ := H
   go_enter Tryz.func34, Tryz.ntmps34
   go_wp2_with (first | ((with_reducible refine qU (N := 2) rfl ?_); refine qQ ?hg (N := 2) ?hd (cs := #[.int .i64 ac, .int .i64 ah, .int .i64 ai, .string af]) (t := 86) ?hr ?_; (case hd => rfl); (case hg => rfl); (case hr => first | (go_simp; done) | (go_simp; rfl)); intro ab hg w4 hbox hb; have aa := Aside0.mk (hbox); have an := Aside0.mk ((by rw [hg]; exact (qw (by repeat (first | (with_reducible first | exact HB.out | apply q8 | apply q9 | apply qb) | exact HB.out))) : w.heap.size ≤ ab)); have ag := Aside0.mk ((by rw [hg]; exact (qw (by repeat (first | (with_reducible first | exact HB.out | apply q8 | apply q9 | apply qb) | exact HB.out))) : w.heap.size ≤ ab)); replace HB := Aside0.mk (qr (by repeat (first | (with_reducible first | exact HB.out | apply q8 | apply q9 | apply qb) | exact HB.out)) hb); clear hb hbox hg; have d1 : w4.cell? ⟨ab, 0, none⟩ = some (.int .i64 ac) := (qa aa.out 0).trans rfl; have d3 : w4.cell? ⟨ab, 1, none⟩ = some (.int .i64 ah) := (qa aa.out 1).trans rfl; have d4 : w4.cell? ⟨ab, 2, none⟩ = some (.int .i64 ai) := (qa aa.out 2).trans rfl; have d5 : w4.cell? ⟨ab, 3, none⟩ = some (.string af) := (qa aa.out 3).trans rfl; have d6 := qc aa.out 0; have d7 := qc aa.out 1; have d8 := qc aa.out 2; have d9 := qc aa.out 3))
   go_ret2
   exact ⟨by first | rfl | (simp [qm, qn] <;> rfl) | (simp [*, qm, qn] <;> rfl), by repeat (first | (with_reducible first | exact HB.out | apply q8 | apply q9 | apply qb | refine qg ?_ ag.out) | exact HB.out)⟩
 · rw [if_neg c3] at H
   have b4 : (ac == 1) = false := beq_eq_false_iff_ne.mpr c3;have b5 : (ac != 1) = true := bne_iff_ne.mpr c3
   by_cases c6 : ac = 2
   · rw [if_pos c6] at H
     have b6 : (ac == 2) = true := beq_iff_eq.mpr c6;have b7 : (ac != 2) = false := bne_eq_false_iff_eq.mpr c6;clear c6;simp only [Option.some.injEq, Prod.mk.injEq] at H;obtain ⟨rfl, rfl⟩ := H
     go_enter Tryz.func34, Tryz.ntmps34
     go_wp2_with (first | ((with_reducible refine qU (N := 2) rfl ?_); refine qQ ?hg (N := 2) ?hd (cs := #[.int .i64 ac, .int .i64 ah, .int .i64 ai, .string af]) (t := 86) ?hr ?_; (case hd => rfl); (case hg => rfl); (case hr => first | (go_simp; done) | (go_simp; rfl)); intro ab hg w7 hbox hb; have aa := Aside0.mk (hbox); have an := Aside0.mk ((by rw [hg]; exact (qw (by repeat (first | (with_reducible first | exact HB.out | apply q8 | apply q9 | apply qb) | exact HB.out))) : w.heap.size ≤ ab)); have ag := Aside0.mk ((by rw [hg]; exact (qw (by repeat (first | (with_reducible first | exact HB.out | apply q8 | apply q9 | apply qb) | exact HB.out))) : w.heap.size ≤ ab)); replace HB := Aside0.mk (qr (by repeat (first | (with_reducible first | exact HB.out | apply q8 | apply q9 | apply qb) | exact HB.out)) hb); clear hb hbox hg; have ea : w7.cell? ⟨ab, 0, none⟩ = some (.int .i64 ac) := (qa aa.out 0).trans rfl; have eb : w7.cell? ⟨ab, 1, none⟩ = some (.int .i64 ah) := (qa aa.out 1).trans rfl; have ec : w7.cell? ⟨ab, 2, none⟩ = some (.int .i64 ai) := (qa aa.out 2).trans rfl; have ed : w7.cell? ⟨ab, 3, none⟩ = some (.string af) := (qa aa.out 3).trans rfl; have ee := qc aa.out 0; have ef := qc aa.out 1; have eg := qc aa.out 2; have eh := qc aa.out 3))
     go_ret2
     exact ⟨by first | rfl | (simp [qm, qn] <;> rfl) | (simp [*, qm, qn] <;> rfl), by repeat (first | (with_reducible first | exact HB.out | apply q8 | apply q9 | apply qb | refine qg ?_ ag.out) | exact HB.out)⟩
   · rw [if_neg c6] at H
     have b6 : (ac == 2) = false := beq_eq_false_iff_ne.mpr c6;have b7 : (ac != 2) = true := bne_iff_ne.mpr c6
     by_cases c9 : ac = 3
     · rw [if_pos c9] at H
       have b8 : (ac == 3) = true := beq_iff_eq.mpr c9;have b9 : (ac != 3) = false := bne_eq_false_iff_eq.mpr c9;clear c9;simp only [Option.some.injEq, Prod.mk.injEq] at H;obtain ⟨rfl, rfl⟩ := H
       go_enter Tryz.func34, Tryz.ntmps34
       go_wp2_with (first | ((with_reducible refine qU (N := 2) rfl ?_); refine qQ ?hg (N := 2) ?hd (cs := #[.int .i64 ac, .int .i64 ah, .int .i64 ai, .string af]) (t := 86) ?hr ?_; (case hd => rfl); (case hg => rfl); (case hr => first | (go_simp; done) | (go_simp; rfl)); intro ab hg a9 hbox hb; have aa := Aside0.mk (hbox); have an := Aside0.mk ((by rw [hg]; exact (qw (by repeat (first | (with_reducible first | exact HB.out | apply q8 | apply q9 | apply qb) | exact HB.out))) : w.heap.size ≤ ab)); have ag := Aside0.mk ((by rw [hg]; exact (qw (by repeat (first | (with_reducible first | exact HB.out | apply q8 | apply q9 | apply qb) | exact HB.out))) : w.heap.size ≤ ab)); replace HB := Aside0.mk (qr (by repeat (first | (with_reducible first | exact HB.out | apply q8 | apply q9 | apply qb) | exact HB.out)) hb); clear hb hbox hg; have cc : a9.cell? ⟨ab, 0, none⟩ = some (.int .i64 ac) := (qa aa.out 0).trans rfl; have cd : a9.cell? ⟨ab, 1, none⟩ = some (.int .i64 ah) := (qa aa.out 1).trans rfl; have ce : a9.cell? ⟨ab, 2, none⟩ = some (.int .i64 ai) := (qa aa.out 2).trans rfl; have cf : a9.cell? ⟨ab, 3, none⟩ = some (.string af) := (qa aa.out 3).trans rfl; have cg := qc aa.out 0; have ch := qc aa.out 1; have ci := qc aa.out 2; have cj := qc aa.out 3))
       go_ret2
       exact ⟨by first | rfl | (simp [qm, qn] <;> rfl) | (simp [*, qm, qn] <;> rfl), by repeat (first | (with_reducible first | exact HB.out | apply q8 | apply q9 | apply qb | refine qg ?_ ag.out) | exact HB.out)⟩
     · rw [if_neg c9] at H
       have b8 : (ac == 3) = false := beq_eq_false_iff_ne.mpr c9;have b9 : (ac != 3) = true := bne_iff_ne.mpr c9
       by_cases ay : ac = 4
       · rw [if_pos ay] at H
         have bs : (ac == 4) = true := beq_iff_eq.mpr ay;have bu : (ac != 4) = false := bne_eq_false_iff_eq.mpr ay;clear ay;simp only [Option.some.injEq, Prod.mk.injEq] at H;obtain ⟨rfl, rfl⟩ := H
         go_enter Tryz.func34, Tryz.ntmps34
         go_wp2_with (first | ((with_reducible refine qU (N := 2) rfl ?_); refine qQ ?hg (N := 2) ?hd (cs := #[.int .i64 ac, .int .i64 ah, .int .i64 ai, .string af]) (t := 86) ?hr ?_; (case hd => rfl); (case hg => rfl); (case hr => first | (go_simp; done) | (go_simp; rfl)); intro ab hg ba hbox hb; have aa := Aside0.mk (hbox); have an := Aside0.mk ((by rw [hg]; exact (qw (by repeat (first | (with_reducible first | exact HB.out | apply q8 | apply q9 | apply qb) | exact HB.out))) : w.heap.size ≤ ab)); have ag := Aside0.mk ((by rw [hg]; exact (qw (by repeat (first | (with_reducible first | exact HB.out | apply q8 | apply q9 | apply qb) | exact HB.out))) : w.heap.size ≤ ab)); replace HB := Aside0.mk (qr (by repeat (first | (with_reducible first | exact HB.out | apply q8 | apply q9 | apply qb) | exact HB.out)) hb); clear hb hbox hg; have ck : ba.cell? ⟨ab, 0, none⟩ = some (.int .i64 ac) := (qa aa.out 0).trans rfl; have cm : ba.cell? ⟨ab, 1, none⟩ = some (.int .i64 ah) := (qa aa.out 1).trans rfl; have cn : ba.cell? ⟨ab, 2, none⟩ = some (.int .i64 ai) := (qa aa.out 2).trans rfl; have co : ba.cell? ⟨ab, 3, none⟩ = some (.string af) := (qa aa.out 3).trans rfl; have cp := qc aa.out 0; have cq := qc aa.out 1; have cr := qc aa.out 2; have ct := qc aa.out 3))
         go_ret2
         exact ⟨by first | rfl | (simp [qm, qn] <;> rfl) | (simp [*, qm, qn] <;> rfl), by repeat (first | (with_reducible first | exact HB.out | apply q8 | apply q9 | apply qb | refine qg ?_ ag.out) | exact HB.out)⟩
       · rw [if_neg ay] at H
         have bs : (ac == 4) = false := beq_eq_false_iff_ne.mpr ay;have bu : (ac != 4) = true := bne_iff_ne.mpr ay
         by_cases az : ac = 5
         · rw [if_pos az] at H
           have bv : (ac == 5) = true := beq_iff_eq.mpr az;have bw : (ac != 5) = false := bne_eq_false_iff_eq.mpr az;clear az;simp only [Option.some.injEq, Prod.mk.injEq] at H;obtain ⟨rfl, rfl⟩ := H
           go_enter Tryz.func34, Tryz.ntmps34
           go_wp2_with (first | ((with_reducible refine qU (N := 2) rfl ?_); refine qQ ?hg (N := 2) ?hd (cs := #[.int .i64 ac, .int .i64 ah, .int .i64 ai, .string af]) (t := 86) ?hr ?_; (case hd => rfl); (case hg => rfl); (case hr => first | (go_simp; done) | (go_simp; rfl)); intro ab hg bb hbox hb; have aa := Aside0.mk (hbox); have an := Aside0.mk ((by rw [hg]; exact (qw (by repeat (first | (with_reducible first | exact HB.out | apply q8 | apply q9 | apply qb) | exact HB.out))) : w.heap.size ≤ ab)); have ag := Aside0.mk ((by rw [hg]; exact (qw (by repeat (first | (with_reducible first | exact HB.out | apply q8 | apply q9 | apply qb) | exact HB.out))) : w.heap.size ≤ ab)); replace HB := Aside0.mk (qr (by repeat (first | (with_reducible first | exact HB.out | apply q8 | apply q9 | apply qb) | exact HB.out)) hb); clear hb hbox hg; have cu : bb.cell? ⟨ab, 0, none⟩ = some (.int .i64 ac) := (qa aa.out 0).trans rfl; have cv : bb.cell? ⟨ab, 1, none⟩ = some (.int .i64 ah) := (qa aa.out 1).trans rfl; have cw : bb.cell? ⟨ab, 2, none⟩ = some (.int .i64 ai) := (qa aa.out 2).trans rfl; have cx : bb.cell? ⟨ab, 3, none⟩ = some (.string af) := (qa aa.out 3).trans rfl; have cy := qc aa.out 0; have cz := qc aa.out 1; have c5 := qc aa.out 2; have c7 := qc aa.out 3))
           go_ret2
           exact ⟨by first | rfl | (simp [qm, qn] <;> rfl) | (simp [*, qm, qn] <;> rfl), by repeat (first | (with_reducible first | exact HB.out | apply q8 | apply q9 | apply qb | refine qg ?_ ag.out) | exact HB.out)⟩
         · rw [if_neg az] at H
           have bv : (ac == 5) = false := beq_eq_false_iff_ne.mpr az;have bw : (ac != 5) = true := bne_iff_ne.mpr az;replace H := Option.bind_eq_some_iff.mp H;obtain ⟨ae, bm, H⟩ := H;replace H : (if ae < 0 then (some (0, 162)) else (if 0 ≤ ae then (if ae < (l1.length : Int) then ((zn.f ((zr l1 ae).f1)).bind fun au => (if au = true then (some ((zr l1 ae).f1, 0)) else (some (0, 163)))) else (none)) else (none))) = some (r1, r2) := H;have bn := Aside0.mk bm;clear bm
           by_cases a1 : ae < 0
           · rw [if_pos a1] at H
             have bz : decide (ae < 0) = true := decide_eq_true a1;clear a1;simp only [Option.some.injEq, Prod.mk.injEq] at H;obtain ⟨rfl, rfl⟩ := H
             go_enter Tryz.func34, Tryz.ntmps34
             go_wp2_with (first | ((with_reducible refine qU (N := 2) rfl ?_); refine qQ ?hg (N := 2) ?hd (cs := #[.int .i64 ac, .int .i64 ah, .int .i64 ai, .string af]) (t := 86) ?hr ?_; (case hd => rfl); (case hg => rfl); (case hr => first | (go_simp; done) | (go_simp; rfl)); intro ab hg bc hbox hb; have aa := Aside0.mk (hbox); have an := Aside0.mk ((by rw [hg]; exact (qw (by repeat (first | (with_reducible first | exact HB.out | apply q8 | apply q9 | apply qb) | exact HB.out))) : w.heap.size ≤ ab)); have ag := Aside0.mk ((by rw [hg]; exact (qw (by repeat (first | (with_reducible first | exact HB.out | apply q8 | apply q9 | apply qb) | exact HB.out))) : w.heap.size ≤ ab)); replace HB := Aside0.mk (qr (by repeat (first | (with_reducible first | exact HB.out | apply q8 | apply q9 | apply qb) | exact HB.out)) hb); clear hb hbox hg; have c8 : bc.cell? ⟨ab, 0, none⟩ = some (.int .i64 ac) := (qa aa.out 0).trans rfl; have da : bc.cell? ⟨ab, 1, none⟩ = some (.int .i64 ah) := (qa aa.out 1).trans rfl; have db : bc.cell? ⟨ab, 2, none⟩ = some (.int .i64 ai) := (qa aa.out 2).trans rfl; have dc : bc.cell? ⟨ab, 3, none⟩ = some (.string af) := (qa aa.out 3).trans rfl; have dd := qc aa.out 0; have de := qc aa.out 1; have df := qc aa.out 2; have dh := qc aa.out 3) | ((with_reducible refine qI (f := 41) rfl ?_); refine zh (some 21) rfl rfl Tryz.func41 (by kernel_rfl) rfl #[.slice A1 l1.length c1, .string af] rfl (by (try simp only [List.map_toArray, List.map_cons, List.map_nil]); first | done | rfl | (simp only [List.length_drop, List.length_take]; rfl)) ?_; (with_reducible refine (qT.calls k _ _ l1 af ae _ ?side1 ?side2 bn.out).mono ?_); (case side1 => repeat (first | exact (Kd.C_below a0.out HB.out) | (with_reducible refine Kd.C_alloc ?_ _) | (with_reducible refine Kd.C_drewN ?_ _) | (with_reducible refine Kd.C_drew ?_))); (case side2 => exact bl.out); rintro e w' ⟨rfl, ⟨nd, rfl⟩⟩; refine ⟨_, rfl, ?_⟩))
             go_ret2
             exact ⟨by first | rfl | (simp [qm, qn] <;> rfl) | (simp [*, qm, qn] <;> rfl), by repeat (first | (with_reducible first | exact HB.out | apply q8 | apply q9 | apply qb | refine qg ?_ ag.out) | exact HB.out)⟩
           · rw [if_neg a1] at H
             have bz : decide (ae < 0) = false := decide_eq_false a1;clear a1
             by_cases bd : 0 ≤ ae
             · rw [if_pos bd] at H
               have ei : decide (0 ≤ ae) = true := decide_eq_true bd;clear bd
               by_cases bf : ae < (l1.length : Int)
               · rw [if_pos bf] at H
                 have ej : decide (ae < (l1.length : Int)) = true := decide_eq_true bf;clear bf;replace H := Option.bind_eq_some_iff.mp H;obtain ⟨au, bo, H⟩ := H;replace H : (if au = true then (some ((zr l1 ae).f1, 0)) else (some (0, 163))) = some (r1, r2) := H;have b3 := Aside0.mk bo;clear bo
                 by_cases bg : au = true
                 · subst bg
                   have H1 : (some ((zr l1 ae).f1, 0)) = some (r1, r2) := by rw [if_pos rfl] at H; exact H
                   clear H;have H := H1;clear H1;simp only [Option.some.injEq, Prod.mk.injEq] at H;obtain ⟨rfl, rfl⟩ := H
                   go_enter Tryz.func34, Tryz.ntmps34
                   go_wp2_with (first | ((with_reducible refine qU (N := 2) rfl ?_); refine qQ ?hg (N := 2) ?hd (cs := #[.int .i64 ac, .int .i64 ah, .int .i64 ai, .string af]) (t := 86) ?hr ?_; (case hd => rfl); (case hg => rfl); (case hr => first | (go_simp; done) | (go_simp; rfl)); intro ab hg bh hbox hb; have aa := Aside0.mk (hbox); have an := Aside0.mk ((by rw [hg]; exact (qw (by repeat (first | (with_reducible first | exact HB.out | apply q8 | apply q9 | apply qb) | exact HB.out))) : w.heap.size ≤ ab)); have ag := Aside0.mk ((by rw [hg]; exact (qw (by repeat (first | (with_reducible first | exact HB.out | apply q8 | apply q9 | apply qb) | exact HB.out))) : w.heap.size ≤ ab)); replace HB := Aside0.mk (qr (by repeat (first | (with_reducible first | exact HB.out | apply q8 | apply q9 | apply qb) | exact HB.out)) hb); clear hb hbox hg; have di : bh.cell? ⟨ab, 0, none⟩ = some (.int .i64 ac) := (qa aa.out 0).trans rfl; have dj : bh.cell? ⟨ab, 1, none⟩ = some (.int .i64 ah) := (qa aa.out 1).trans rfl; have dk : bh.cell? ⟨ab, 2, none⟩ = some (.int .i64 ai) := (qa aa.out 2).trans rfl; have dl : bh.cell? ⟨ab, 3, none⟩ = some (.string af) := (qa aa.out 3).trans rfl; have dm := qc aa.out 0; have dn := qc aa.out 1; have dq := qc aa.out 2; have dr := qc aa.out 3) | ((with_reducible refine qI (f := 41) rfl ?_); refine zh (some 21) rfl rfl Tryz.func41 (by kernel_rfl) rfl #[.slice A1 l1.length c1, .string af] rfl (by (try simp only [List.map_toArray, List.map_cons, List.map_nil]); first | done | rfl | (simp only [List.length_drop, List.length_take]; rfl)) ?_; (with_reducible refine (qT.calls k _ _ l1 af ae _ ?side1 ?side2 bn.out).mono ?_); (case side1 => repeat (first | exact (Kd.C_below a0.out HB.out) | (with_reducible refine Kd.C_alloc ?_ _) | (with_reducible refine Kd.C_drewN ?_ _) | (with_reducible refine Kd.C_drew ?_))); (case side2 => exact bl.out); rintro e w' ⟨rfl, ⟨nd, rfl⟩⟩; refine ⟨_, rfl, ?_⟩; have ao : 0 ≤ (ae : Int) := of_decide_eq_true (by first | (with_reducible assumption) | assumption); have ap : ae < (l1.length : Int) := of_decide_eq_true (by first | (with_reducible assumption) | assumption); obtain ⟨bi, a6, ak, al, am⟩ := at_T93 a0.out ae ao ap; cases a6; replace ak := (HB.out.cell (World.block_lt_of_cell? w _ ak)).trans ak; replace al := (HB.out.cell (World.block_lt_of_cell? w _ al)).trans al; replace am := (HB.out.cell (World.block_lt_of_cell? w _ am)).trans am; replace ao := eq_true ao; replace ap := eq_true ap) | ((with_reducible refine qI (f := 73) rfl ?_); refine zh (some 29) rfl rfl Tryz.func73 (by kernel_rfl) rfl #[.int .i64 ((zr l1 ae).f1)] rfl (by (try simp only [List.map_toArray, List.map_cons, List.map_nil]); first | done | rfl | (simp only [List.length_drop, List.length_take]; rfl)) ?_; (with_reducible refine (zn.calls ((zr l1 ae).f1) true _ b3.out).mono ?_); rintro e w' ⟨rfl, ⟨nd, rfl⟩⟩; refine ⟨_, rfl, ?_⟩; have a7 : 0 ≤ (ae : Int) := of_decide_eq_true (by first | (with_reducible assumption) | assumption); have a8 : ae < (l1.length : Int) := of_decide_eq_true (by first | (with_reducible assumption) | assumption); obtain ⟨b0, cb, av, aw, ax⟩ := at_T93 a0.out ae a7 a8; obtain rfl : bi = b0 := (by injection cb); replace av := (HB.out.cell (World.block_lt_of_cell? w _ av)).trans av; replace aw := (HB.out.cell (World.block_lt_of_cell? w _ aw)).trans aw; replace ax := (HB.out.cell (World.block_lt_of_cell? w _ ax)).trans ax; replace a7 := eq_true a7; replace a8 := eq_true a8))
                   go_ret2
                   exact ⟨by first | rfl | (simp [qm, qn] <;> rfl) | (simp [*, qm, qn] <;> rfl), by repeat (first | (with_reducible first | exact HB.out | apply q8 | apply q9 | apply qb | refine qg ?_ ag.out) | exact HB.out)⟩
                 · replace bg := Bool.eq_false_iff.mpr bg
                   subst bg
                   have H1 : (some (0, 163)) = some (r1, r2) := by rw [if_neg (show ¬ (false = true) by decide)] at H; exact H
                   clear H;have H := H1;clear H1;simp only [Option.some.injEq, Prod.mk.injEq] at H;obtain ⟨rfl, rfl⟩ := H
                   go_enter Tryz.func34, Tryz.ntmps34
                   go_wp2_with (first | ((with_reducible refine qU (N := 2) rfl ?_); refine qQ ?hg (N := 2) ?hd (cs := #[.int .i64 ac, .int .i64 ah, .int .i64 ai, .string af]) (t := 86) ?hr ?_; (case hd => rfl); (case hg => rfl); (case hr => first | (go_simp; done) | (go_simp; rfl)); intro ab hg bj hbox hb; have aa := Aside0.mk (hbox); have an := Aside0.mk ((by rw [hg]; exact (qw (by repeat (first | (with_reducible first | exact HB.out | apply q8 | apply q9 | apply qb) | exact HB.out))) : w.heap.size ≤ ab)); have ag := Aside0.mk ((by rw [hg]; exact (qw (by repeat (first | (with_reducible first | exact HB.out | apply q8 | apply q9 | apply qb) | exact HB.out))) : w.heap.size ≤ ab)); replace HB := Aside0.mk (qr (by repeat (first | (with_reducible first | exact HB.out | apply q8 | apply q9 | apply qb) | exact HB.out)) hb); clear hb hbox hg; have dt : bj.cell? ⟨ab, 0, none⟩ = some (.int .i64 ac) := (qa aa.out 0).trans rfl; have du : bj.cell? ⟨ab, 1, none⟩ = some (.int .i64 ah) := (qa aa.out 1).trans rfl; have dv : bj.cell? ⟨ab, 2, none⟩ = some (.int .i64 ai) := (qa aa.out 2).trans rfl; have dw : bj.cell? ⟨ab, 3, none⟩ = some (.string af) := (qa aa.out 3).trans rfl; have dx := qc aa.out 0; have dy := qc aa.out 1; have dz := qc aa.out 2; have d0 := qc aa.out 3) | ((with_reducible refine qI (f := 41) rfl ?_); refine zh (some 21) rfl rfl Tryz.func41 (by kernel_rfl) rfl #[.slice A1 l1.length c1, .string af] rfl (by (try simp only [List.map_toArray, List.map_cons, List.map_nil]); first | done | rfl | (simp only [List.length_drop, List.length_take]; rfl)) ?_; (with_reducible refine (qT.calls k _ _ l1 af ae _ ?side1 ?side2 bn.out).mono ?_); (case side1 => repeat (first | exact (Kd.C_below a0.out HB.out) | (with_reducible refine Kd.C_alloc ?_ _) | (with_reducible refine Kd.C_drewN ?_ _) | (with_reducible refine Kd.C_drew ?_))); (case side2 => exact bl.out); rintro e w' ⟨rfl, ⟨nd, rfl⟩⟩; refine ⟨_, rfl, ?_⟩; have ao : 0 ≤ (ae : Int) := of_decide_eq_true (by first | (with_reducible assumption) | assumption); have ap : ae < (l1.length : Int) := of_decide_eq_true (by first | (with_reducible assumption) | assumption); obtain ⟨bi, a6, ak, al, am⟩ := at_T93 a0.out ae ao ap; cases a6; replace ak := (HB.out.cell (World.block_lt_of_cell? w _ ak)).trans ak; replace al := (HB.out.cell (World.block_lt_of_cell? w _ al)).trans al; replace am := (HB.out.cell (World.block_lt_of_cell? w _ am)).trans am; replace ao := eq_true ao; replace ap := eq_true ap) | ((with_reducible refine qI (f := 73) rfl ?_); refine zh (some 29) rfl rfl Tryz.func73 (by kernel_rfl) rfl #[.int .i64 ((zr l1 ae).f1)] rfl (by (try simp only [List.map_toArray, List.map_cons, List.map_nil]); first | done | rfl | (simp only [List.length_drop, List.length_take]; rfl)) ?_; (with_reducible refine (zn.calls ((zr l1 ae).f1) false _ b3.out).mono ?_); rintro e w' ⟨rfl, ⟨nd, rfl⟩⟩; refine ⟨_, rfl, ?_⟩))
                   go_ret2
                   exact ⟨by first | rfl | (simp [qm, qn] <;> rfl) | (simp [*, qm, qn] <;> rfl), by repeat (first | (with_reducible first | exact HB.out | apply q8 | apply q9 | apply qb | refine qg ?_ ag.out) | exact HB.out)⟩
               · rw [if_neg bf] at H
                 exact absurd H (by simp)
             · rw [if_neg bd] at H
               exact absurd H (by simp)
def zN.f (a0 : Int) (a1 : Int) : Option (Int) := if a0 = 0 then (some a1) else (if a1 = 0 then (some a0) else (if a0 = a1 then (some a0) else (some (-1))))
set_option maxHeartbeats 8000000 in
set_option maxRecDepth 100000 in
theorem zN.calls (a0 : Int) (a1 : Int) (r : Int) (w : World) (h : zN.f a0 a1 = some r) :
 Calls Tryz.prog 119 #[.int .i64 a0, .int .i64 a1] w fun e w' => e = .returned (.int .i64 r) ∧ qt w w' := by
 have H : (if a0 = 0 then (some a1) else (if a1 = 0 then (some a0) else (if a0 = a1 then (some a0) else (some (-1))))) = some r := h;clear h
 by_cases c3 : a0 = 0
 · rw [if_pos c3] at H
   have ae : (a0 == 0) = true := beq_iff_eq.mpr c3;have af : (a0 != 0) = false := bne_eq_false_iff_eq.mpr c3;clear c3;obtain rfl := Option.some.inj H
   go_enter Tryz.func119, Tryz.ntmps119
   go_wp2
   go_ret
   exact ⟨by first | rfl | (simp; done) | (simp [*]; done), by repeat (first | exact qt.refl _ | apply qt.step)⟩
 · rw [if_neg c3] at H
   have ae : (a0 == 0) = false := beq_eq_false_iff_ne.mpr c3;have af : (a0 != 0) = true := bne_iff_ne.mpr c3
   by_cases c4 : a1 = 0
   · rw [if_pos c4] at H
     have ag : (a1 == 0) = true := beq_iff_eq.mpr c4;have ah : (a1 != 0) = false := bne_eq_false_iff_eq.mpr c4;clear c4;obtain rfl := Option.some.inj H
     go_enter Tryz.func119, Tryz.ntmps119
     go_wp2
     go_ret
     exact ⟨by first | rfl | (simp; done) | (simp [*]; done), by repeat (first | exact qt.refl _ | apply qt.step)⟩
   · rw [if_neg c4] at H
     have ag : (a1 == 0) = false := beq_eq_false_iff_ne.mpr c4;have ah : (a1 != 0) = true := bne_iff_ne.mpr c4
     by_cases c5 : a0 = a1
     · rw [if_pos c5] at H
       have ai : (a0 == a1) = true := beq_iff_eq.mpr c5;have aj : (a0 != a1) = false := bne_eq_false_iff_eq.mpr c5;clear c5;obtain rfl := Option.some.inj H
       go_enter Tryz.func119, Tryz.ntmps119
       go_wp2
       go_ret
       exact ⟨by first | rfl | (simp; done) | (simp [*]; done), by repeat (first | exact qt.refl _ | apply qt.step)⟩
     · rw [if_neg c5] at H
       have ai : (a0 == a1) = false := beq_eq_false_iff_ne.mpr c5;have aj : (a0 != a1) = true := bne_iff_ne.mpr c5;obtain rfl := Option.some.inj H
       go_enter Tryz.func119, Tryz.ntmps119
       go_wp2
       go_ret
       exact ⟨by first | rfl | (simp; done) | (simp [*]; done), by repeat (first | exact qt.refl _ | apply qt.step)⟩
def qW.l0 : Nat → List Int → Int → Int → Option (Int)
 | 0, _, _, _ => none
 | k + 1, x0, x3, x4 => if x4 < (x0.length : Int) then (if 0 ≤ x4 then ((zN.f x3 (rd x0 x4)).bind fun aa => (if aa < 0 then (some (-1)) else (qW.l0 k x0 aa (wrap64 (x4 + 1))))) else (none)) else (some x3)
def qW.f (k : Nat) (l0 : List Int) : Option (Int) := qW.l0 k l0 0 0
set_option maxHeartbeats 8000000 in
set_option maxRecDepth 100000 in
theorem qW.calls (k : Nat) (A0 : Option Addr) (c0 : Nat) (l0 : List Int) (r : Int) (w : World) (ak : Kd.C (Kd.int .i64) w A0 l0.length l0) (al : l0.length ≤ c0) (h : qW.f k l0 = some r) :
 Calls Tryz.prog 74 #[.slice A0 l0.length c0] w fun e w' => e = .returned (.int .i64 r) ∧ qt w w' := by
 have am := Aside0.mk ak;have a0 := Aside0.mk al;clear ak al;have H : (qW.l0 k l0 0 0) = some r := h;clear h;have H' := Aside0.mk H;clear H
 go_enter Tryz.func74, Tryz.ntmps74
 go_wp2
 go_loopg [3, 4] k (fun kq v3 v4 w' => ∃ (ac : Int) (aa : Int), v3 = .int .i64 ac ∧ v4 = .int .i64 aa ∧ Aside0 (qW.l0 kq l0 ac aa = some r) ∧ Aside0 (kq ≤ k) ∧ qt w w')
 case atStart => exact ⟨(0), (0), (by first | rfl | (simp; done) | (simp [*]; done)), (by first | rfl | (simp; done) | (simp [*]; done)), H', ⟨Nat.le_refl _⟩, by repeat (first | exact qt.refl _ | apply qt.step)⟩
 case round =>
  clear H';obtain ⟨ac, aa, rfl, rfl, HA, an, ⟨m1, rfl⟩⟩ := hrel
  cases gk with
  | zero => exact absurd HA.out (by simp [qW.l0])
  | succ k1 =>
   have H := HA.out;clear HA;simp only [qW.l0] at H
   by_cases c2 : aa < (l0.length : Int)
   · rw [if_pos c2] at H
     have ap : decide (aa < (l0.length : Int)) = true := decide_eq_true c2;clear c2
     by_cases c3 : 0 ≤ aa
     · rw [if_pos c3] at H
       have az : decide (0 ≤ aa) = true := decide_eq_true c3;clear c3;replace H := Option.bind_eq_some_iff.mp H;obtain ⟨ab, ao, H⟩ := H;replace H : (if ab < 0 then (some (-1)) else (qW.l0 k1 l0 ab (wrap64 (aa + 1)))) = some r := H;have A4 := Aside0.mk ao;clear ao
       by_cases c5 : ab < 0
       · rw [if_pos c5] at H
         have au : decide (ab < 0) = true := decide_eq_true c5;clear c5;obtain rfl := Option.some.inj H;have ae : 0 ≤ (aa : Int) := of_decide_eq_true (by first | (with_reducible assumption) | assumption);have af : aa < (l0.length : Int) := of_decide_eq_true (by first | (with_reducible assumption) | assumption);obtain ⟨aj, ag, ai⟩ := Kd.at_int am.out aa ae af;cases ag;replace ae := eq_true ae;replace af := eq_true af
         go_wp2_with (first | ((with_reducible refine qI (f := 119) rfl ?_); refine zh (some 16) rfl rfl Tryz.func119 (by kernel_rfl) rfl #[.int .i64 ac, .int .i64 (rd l0 aa)] rfl (by (try simp only [List.map_toArray, List.map_cons, List.map_nil]); first | done | rfl | (simp only [List.length_drop, List.length_take]; rfl)) ?_; (with_reducible refine (zN.calls ac (rd l0 aa) ab _ A4.out).mono ?_); rintro e w' ⟨rfl, ⟨nd, rfl⟩⟩; refine ⟨_, rfl, ?_⟩))
         go_ret
         exact ⟨by first | rfl | (simp; done) | (simp [*]; done), by repeat (first | exact qt.refl _ | apply qt.step)⟩
       · rw [if_neg c5] at H
         have au : decide (ab < 0) = false := decide_eq_false c5;clear c5;have H' := Aside0.mk H;clear H;have ae : 0 ≤ (aa : Int) := of_decide_eq_true (by first | (with_reducible assumption) | assumption);have af : aa < (l0.length : Int) := of_decide_eq_true (by first | (with_reducible assumption) | assumption);obtain ⟨aj, ag, ai⟩ := Kd.at_int am.out aa ae af;cases ag;replace ae := eq_true ae;replace af := eq_true af
         go_wp2_with (first | ((with_reducible refine qI (f := 119) rfl ?_); refine zh (some 16) rfl rfl Tryz.func119 (by kernel_rfl) rfl #[.int .i64 ac, .int .i64 (rd l0 aa)] rfl (by (try simp only [List.map_toArray, List.map_cons, List.map_nil]); first | done | rfl | (simp only [List.length_drop, List.length_take]; rfl)) ?_; (with_reducible refine (zN.calls ac (rd l0 aa) ab _ A4.out).mono ?_); rintro e w' ⟨rfl, ⟨nd, rfl⟩⟩; refine ⟨_, rfl, ?_⟩))
         go_roundg k1
         case measure => have := an.out; omega
         case rel => exact ⟨(ab), (wrap64 (aa + 1)), (by first | rfl | (simp; done) | (simp [*]; done)), (by first | rfl | (simp; done) | (simp [*]; done)), H', ⟨by have := an.out; omega⟩, by repeat (first | exact qt.refl _ | apply qt.step)⟩
     · rw [if_neg c3] at H
       exact absurd H (by simp)
   · rw [if_neg c2] at H
     have ap : decide (aa < (l0.length : Int)) = false := decide_eq_false c2;clear c2;obtain rfl := Option.some.inj H;go_wp2
     go_ret
     exact ⟨by first | rfl | (simp; done) | (simp [*]; done), by repeat (first | exact qt.refl _ | apply qt.step)⟩
def z6.l0 : Nat → List Int → Int → Int → Option (Bool)
 | 0, _, _, _ => none
 | k + 1, x0, x1, x5 => if x5 < (x0.length : Int) then (if 0 ≤ x5 then (if (rd x0 x5) = x1 then (z6.l0 k x0 x1 (wrap64 (x5 + 1))) else (if (rd x0 x5) = 0 then (z6.l0 k x0 x1 (wrap64 (x5 + 1))) else (some false))) else (none)) else (some true)
def z6.f (k : Nat) (l0 : List Int) (a1 : Int) : Option (Bool) := z6.l0 k l0 a1 0
set_option maxHeartbeats 8000000 in
set_option maxRecDepth 100000 in
theorem z6.calls (k : Nat) (A0 : Option Addr) (c0 : Nat) (l0 : List Int) (a1 : Int) (r : Bool) (w : World) (av : Kd.C (Kd.int .i64) w A0 l0.length l0) (aw : l0.length ≤ c0) (h : z6.f k l0 a1 = some r) :
 Calls Tryz.prog 76 #[.slice A0 l0.length c0, .int .i64 a1] w fun e w' => e = .returned (.bool r) ∧ qt w w' := by
 have al := Aside0.mk av;have a6 := Aside0.mk aw;clear av aw;have H : (z6.l0 k l0 a1 0) = some r := h;clear h;have H' := Aside0.mk H;clear H
 go_enter Tryz.func76, Tryz.ntmps76
 go_wp2
 go_loopg [5] k (fun kq v5 w' => ∃ (aa : Int), v5 = .int .i64 aa ∧ Aside0 (z6.l0 kq l0 a1 aa = some r) ∧ Aside0 (kq ≤ k) ∧ qt w w')
 case atStart => exact ⟨(0), (by first | rfl | (simp; done) | (simp [*]; done)), H', ⟨Nat.le_refl _⟩, by repeat (first | exact qt.refl _ | apply qt.step)⟩
 case round =>
  clear H'
  (try clear p2)
  obtain ⟨aa, rfl, HA, ap, ⟨m1, rfl⟩⟩ := hrel
  cases gk with
  | zero => exact absurd HA.out (by simp [z6.l0])
  | succ k1 =>
   have H := HA.out;clear HA;simp only [z6.l0] at H
   by_cases c3 : aa < (l0.length : Int)
   · rw [if_pos c3] at H
     have ax : decide (aa < (l0.length : Int)) = true := decide_eq_true c3;clear c3
     by_cases c4 : 0 ≤ aa
     · rw [if_pos c4] at H
       have a5 : decide (0 ≤ aa) = true := decide_eq_true c4;clear c4
       by_cases c5 : (rd l0 aa) = a1
       · rw [if_pos c5] at H
         have ay : ((rd l0 aa) == a1) = true := beq_iff_eq.mpr c5;have az : ((rd l0 aa) != a1) = false := bne_eq_false_iff_eq.mpr c5;clear c5;have H' := Aside0.mk H;clear H;have ab : 0 ≤ (aa : Int) := of_decide_eq_true (by first | (with_reducible assumption) | assumption);have ac : aa < (l0.length : Int) := of_decide_eq_true (by first | (with_reducible assumption) | assumption);obtain ⟨ag, ah, ai⟩ := Kd.at_int al.out aa ab ac;cases ah;replace ab := eq_true ab;replace ac := eq_true ac;go_wp2
         go_roundg k1
         case measure => have := ap.out; omega
         case rel => exact ⟨(wrap64 (aa + 1)), (by first | rfl | (simp; done) | (simp [*]; done)), H', ⟨by have := ap.out; omega⟩, by repeat (first | exact qt.refl _ | apply qt.step)⟩
       · rw [if_neg c5] at H
         have ay : ((rd l0 aa) == a1) = false := beq_eq_false_iff_ne.mpr c5;have az : ((rd l0 aa) != a1) = true := bne_iff_ne.mpr c5
         by_cases c6 : (rd l0 aa) = 0
         · rw [if_pos c6] at H
           have a0 : ((rd l0 aa) == 0) = true := beq_iff_eq.mpr c6;have a2 : ((rd l0 aa) != 0) = false := bne_eq_false_iff_eq.mpr c6;clear c6;have H' := Aside0.mk H;clear H;have ab : 0 ≤ (aa : Int) := of_decide_eq_true (by first | (with_reducible assumption) | assumption);have ac : aa < (l0.length : Int) := of_decide_eq_true (by first | (with_reducible assumption) | assumption);obtain ⟨ag, ah, ai⟩ := Kd.at_int al.out aa ab ac;cases ah;replace ab := eq_true ab;replace ac := eq_true ac;have ae : 0 ≤ (aa : Int) := of_decide_eq_true (by first | (with_reducible assumption) | assumption);have af : aa < (l0.length : Int) := of_decide_eq_true (by first | (with_reducible assumption) | assumption);obtain ⟨ak, ao, au⟩ := Kd.at_int al.out aa ae af;obtain rfl : ag = ak := (by injection ao);replace ae := eq_true ae;replace af := eq_true af;go_wp2
           go_roundg k1
           case measure => have := ap.out; omega
           case rel => exact ⟨(wrap64 (aa + 1)), (by first | rfl | (simp; done) | (simp [*]; done)), H', ⟨by have := ap.out; omega⟩, by repeat (first | exact qt.refl _ | apply qt.step)⟩
         · rw [if_neg c6] at H
           have a0 : ((rd l0 aa) == 0) = false := beq_eq_false_iff_ne.mpr c6;have a2 : ((rd l0 aa) != 0) = true := bne_iff_ne.mpr c6;obtain rfl := Option.some.inj H;have ab : 0 ≤ (aa : Int) := of_decide_eq_true (by first | (with_reducible assumption) | assumption);have ac : aa < (l0.length : Int) := of_decide_eq_true (by first | (with_reducible assumption) | assumption);obtain ⟨ag, ah, ai⟩ := Kd.at_int al.out aa ab ac;cases ah;replace ab := eq_true ab;replace ac := eq_true ac;have ae : 0 ≤ (aa : Int) := of_decide_eq_true (by first | (with_reducible assumption) | assumption);have af : aa < (l0.length : Int) := of_decide_eq_true (by first | (with_reducible assumption) | assumption);obtain ⟨ak, ao, au⟩ := Kd.at_int al.out aa ae af;obtain rfl : ag = ak := (by injection ao);replace ae := eq_true ae;replace af := eq_true af;go_wp2
           go_ret
           exact ⟨by first | rfl | (simp; done) | (simp [*]; done), by repeat (first | exact qt.refl _ | apply qt.step)⟩
     · rw [if_neg c4] at H
       exact absurd H (by simp)
   · rw [if_neg c3] at H
     have ax : decide (aa < (l0.length : Int)) = false := decide_eq_false c3;clear c3;obtain rfl := Option.some.inj H;go_wp2
     go_ret
     exact ⟨by first | rfl | (simp; done) | (simp [*]; done), by repeat (first | exact qt.refl _ | apply qt.step)⟩
end Go.Proofs.YtfmgbgkcmmpcfaaGreatDoor.PTk

