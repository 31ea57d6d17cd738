import Derived.Test.YtfmgbgkcmmpcfaaGreatDoorCPTkx0
import Derived.Test.YtfmgbgkcmmpcfaaGreatDoorCPTkx13
import Derived.Test.YtfmgbgkcmmpcfaaGreatDoorCPTkx14
namespace Go.Proofs.YtfmgbgkcmmpcfaaGreatDoor.PTk
open Go.RowKit Go.Proofs.YtfmgbgkcmmpcfaaGreatDoorW.PrintWords Go.Proofs.YtfmgbgkcmmpcfaaGreatDoorW.PrintLast Go.Proofs.YtfmgbgkcmmpcfaaGreatDoorW.PrintMore
attribute [local go_sem] zp zC
set_option linter.unusedVariables false
set_option linter.unusedSimpArgs false
theorem bsz (a : Array UInt8) : (⟨a⟩ : ByteArray).size = a.size := rfl
set_option linter.unusedSectionVars false
structure vT where
 S : Int → Int → Int → ByteArray → List (S130) → Option ByteArray
 ok : ∀ (a0_0 : Int) (a0_1 : Int) (a0_2 : Int) (a0_3 : ByteArray) (A0_4 : Option Addr) (c0_4 : Nat) (l0_4 : List (S130)) (r : ByteArray) (w : World) (hr0_4 : Kd.C k130 w A0_4 l0_4.length l0_4) (hc0_4 : l0_4.length ≤ c0_4) (h : S a0_0 a0_1 a0_2 a0_3 l0_4 = some r), Calls Tryz.prog 72 #[.agg #[.int .i64 a0_0, .int .i64 a0_1, .int .i64 a0_2, .string a0_3, .slice A0_4 l0_4.length c0_4]] w fun e w' => e = .returned (.string r) ∧ Below w.heap.size w w'
section
variable [Inhabited vT]
def showS.f (k : Nat) (aa : Int) (ab : Int) (ac : Int) (ae : ByteArray) (af : List (S130)) : Option ByteArray := (default : vT).S aa ab ac ae af
theorem showS.calls (k : Nat) (ab : Int) (ac : Int) (ae : Int) (af : ByteArray) (ag : Option Addr) (ah : Nat) (aa : List (S130)) (r : ByteArray) (w : World) (ai : Kd.C k130 w ag aa.length aa) (aj : aa.length ≤ ah) (h : showS.f k ab ac ae af aa = some r) :
 Calls Tryz.prog 72 #[.agg #[.int .i64 ab, .int .i64 ac, .int .i64 ae, .string af, .slice ag aa.length ah]] w fun e w' => e = .returned (.string r) ∧ Below w.heap.size w w' := (default : vT).ok ab ac ae af ag ah aa r w ai aj h
def qp.f (k : Nat) (ae : Int) (ah : Int) (ai : Int) (aj : ByteArray) (aa : List (S130)) (a1 : Int) : Option (ByteArray) := if 0 ≤ a1 then (if a1 < (aa.length : Int) then ((showS.f k ((qA aa a1).f0.f0) ((qA aa a1).f0.f1) ((qA aa a1).f0.f2) ((qA aa a1).f0.f3) ((qA aa a1).f1)).bind fun ac => ((qj.f k ((qA aa a1).f0.f0) ((qA aa a1).f0.f1) ((qA aa a1).f0.f2) ((qA aa a1).f0.f3) ((qA aa a1).f1)).bind fun af => ((qk.f k ae a1).bind fun ag => (if af < ag then (if 1 + ac.size ≤ 9223372036854775807 then (if ((⟨#[40]⟩ : ByteArray) ++ ac).size + 1 ≤ 9223372036854775807 then (some (((⟨#[40]⟩ : ByteArray) ++ ac) ++ (⟨#[41]⟩ : ByteArray))) else (none)) else (none)) else (some ac))))) else (none)) else (none)
def qp.T2 : Bool × List (List Nat × List Nat) := (true, [([], []), ([0], [0]), ([], []), ([1, 2], [1, 2]), ([3], [3]), ([4], [4]), ([], []), ([6], [6]), ([7], [7]), ([], []), ([8, 9, 5], [8, 9]), ([5, 10], [5, 10])])
def qp.B2 : List Nat := [0, 1, 0, 7, 15, 31, 0, 64, 192, 0, 1023, 2047]
theorem qp.tab2 : rtab .any (opsOf Tryz.f114 2) = qp.T2 := by kernel_rfl
theorem qp.bits2 : vg qp.T2.2 qp.B2 = true := by kernel_rfl
set_option maxHeartbeats 8000000 in
set_option maxRecDepth 100000 in
theorem qp.calls (k : Nat) (av : Int) (a2 : Int) (a3 : Int) (a4 : ByteArray) (bl : Option Addr) (a5 : Nat) (aa : List (S130)) (a1 : Int) (r : ByteArray) (w : World) (b1 : Kd.C k130 w bl aa.length aa) (b2 : aa.length ≤ a5) (h : qp.f k av a2 a3 a4 aa a1 = some r) :
 Calls Tryz.prog 114 #[.agg #[.int .i64 av, .int .i64 a2, .int .i64 a3, .string a4, .slice bl aa.length a5], .int .i64 a1] w fun e w' => e = .returned (.string r) ∧ Below w.heap.size w w' := by
 have dq := Tryz.underlying130;have bp := Aside0.mk b1;have dr := Aside0.mk b2;clear b1 b2;have HB := Aside0.mk (Below.refl w.heap.size w);have H : (if 0 ≤ a1 then (if a1 < (aa.length : Int) then ((showS.f k ((qA aa a1).f0.f0) ((qA aa a1).f0.f1) ((qA aa a1).f0.f2) ((qA aa a1).f0.f3) ((qA aa a1).f1)).bind fun ag => ((qj.f k ((qA aa a1).f0.f0) ((qA aa a1).f0.f1) ((qA aa a1).f0.f2) ((qA aa a1).f0.f3) ((qA aa a1).f1)).bind fun a7 => ((qk.f k av a1).bind fun a6 => (if a7 < a6 then (if 1 + ag.size ≤ 9223372036854775807 then (if ((⟨#[40]⟩ : ByteArray) ++ ag).size + 1 ≤ 9223372036854775807 then (some (((⟨#[40]⟩ : ByteArray) ++ ag) ++ (⟨#[41]⟩ : ByteArray))) else (none)) else (none)) else (some ag))))) else (none)) else (none)) = some r := h;clear h
 by_cases c3 : 0 ≤ a1
 · rw [if_pos c3] at H
   have dv : decide (0 ≤ a1) = true := decide_eq_true c3;clear c3
   by_cases c4 : a1 < (aa.length : Int)
   · rw [if_pos c4] at H
     have dw : decide (a1 < (aa.length : Int)) = true := decide_eq_true c4;clear c4;replace H := Option.bind_eq_some_iff.mp H;obtain ⟨ag, cm, H⟩ := H;replace H : ((qj.f k ((qA aa a1).f0.f0) ((qA aa a1).f0.f1) ((qA aa a1).f0.f2) ((qA aa a1).f0.f3) ((qA aa a1).f1)).bind fun a7 => ((qk.f k av a1).bind fun a6 => (if a7 < a6 then (if 1 + ag.size ≤ 9223372036854775807 then (if ((⟨#[40]⟩ : ByteArray) ++ ag).size + 1 ≤ 9223372036854775807 then (some (((⟨#[40]⟩ : ByteArray) ++ ag) ++ (⟨#[41]⟩ : ByteArray))) else (none)) else (none)) else (some ag)))) = some r := H;have A5 := Aside0.mk cm;clear cm;replace H := Option.bind_eq_some_iff.mp H;obtain ⟨a7, cn, H⟩ := H;replace H : ((qk.f k av a1).bind fun a6 => (if a7 < a6 then (if 1 + ag.size ≤ 9223372036854775807 then (if ((⟨#[40]⟩ : ByteArray) ++ ag).size + 1 ≤ 9223372036854775807 then (some (((⟨#[40]⟩ : ByteArray) ++ ag) ++ (⟨#[41]⟩ : ByteArray))) else (none)) else (none)) else (some ag))) = some r := H;have A6 := Aside0.mk cn;clear cn;replace H := Option.bind_eq_some_iff.mp H;obtain ⟨a6, co, H⟩ := H;replace H : (if a7 < a6 then (if 1 + ag.size ≤ 9223372036854775807 then (if ((⟨#[40]⟩ : ByteArray) ++ ag).size + 1 ≤ 9223372036854775807 then (some (((⟨#[40]⟩ : ByteArray) ++ ag) ++ (⟨#[41]⟩ : ByteArray))) else (none)) else (none)) else (some ag)) = some r := H;have A7 := Aside0.mk co;clear co
     by_cases c8 : a7 < a6
     · rw [if_pos c8] at H
       have cp : decide (a7 < a6) = true := decide_eq_true c8;clear c8
       by_cases c9 : 1 + ag.size ≤ 9223372036854775807
       · rw [if_pos c9] at H
         have dx := eq_true c9;have dy : decide (1 + ag.size ≤ 9223372036854775807) = true := decide_eq_true c9
         try have dz : (9223372036854775807 < 1 + ag.size) = False := eq_false (Nat.not_lt.2 c9)
         by_cases bu : ((⟨#[40]⟩ : ByteArray) ++ ag).size + 1 ≤ 9223372036854775807
         · rw [if_pos bu] at H
           have dt := eq_true bu;have du : decide (((⟨#[40]⟩ : ByteArray) ++ ag).size + 1 ≤ 9223372036854775807) = true := decide_eq_true bu
           try have b3 : (9223372036854775807 < ((⟨#[40]⟩ : ByteArray) ++ ag).size + 1) = False := eq_false (Nat.not_lt.2 bu)
           try (have ci := b3; simp only [ByteArray.size_append, ByteArray.size_extract] at ci)
           try (have cj := b3; simp only [ByteArray.size_append, ByteArray.size_extract, bsz, List.size_toArray, List.length_cons, List.length_nil, Nat.reduceAdd] at cj)
           obtain rfl := Option.some.inj H
           go_enter Tryz.func114, Tryz.ntmps114
           try go_wp2_with (first | ((with_reducible refine qU (N := 2) rfl ?_); refine qQ ?hg (N := 2) ?hd (cs := #[.int .i64 av, .int .i64 a2, .int .i64 a3, .string a4, .slice bl aa.length a5]) (t := 130) ?hr ?_; (case hd => rfl); (case hg => rfl); (case hr => first | (go_simp; done) | (go_simp; rfl)); intro ae hg bv hbox hb; have ab := Aside0.mk (hbox); have ck := Aside0.mk ((by rw [hg]; exact (qw (by repeat (first | (with_reducible first | exact HB.out | apply q8 | apply q9 | apply qb) | exact HB.out))) : w.heap.size ≤ ae)); have bd := Aside0.mk ((by rw [hg]; exact (qw (by repeat (first | (with_reducible first | exact HB.out | apply q8 | apply q9 | apply qb) | exact HB.out))) : w.heap.size ≤ ae)); replace HB := Aside0.mk (qr (by repeat (first | (with_reducible first | exact HB.out | apply q8 | apply q9 | apply qb) | exact HB.out)) hb); clear hb hbox hg; have cq : bv.cell? ⟨ae, 0, none⟩ = some (.int .i64 av) := (qa ab.out 0).trans rfl; have cr : bv.cell? ⟨ae, 1, none⟩ = some (.int .i64 a2) := (qa ab.out 1).trans rfl; have ct : bv.cell? ⟨ae, 2, none⟩ = some (.int .i64 a3) := (qa ab.out 2).trans rfl; have cu : bv.cell? ⟨ae, 3, none⟩ = some (.string a4) := (qa ab.out 3).trans rfl; have cv : bv.cell? ⟨ae, 4, none⟩ = some (.slice bl aa.length a5) := (qa ab.out 4).trans rfl; have cw := qc ab.out 0; have cx := qc ab.out 1; have cy := qc ab.out 2; have cz := qc ab.out 3; have c5 := qc ab.out 4; have bh : 0 ≤ (a1 : Int) := of_decide_eq_true (by first | (with_reducible assumption) | assumption); have bi : a1 < (aa.length : Int) := of_decide_eq_true (by first | (with_reducible assumption) | assumption); obtain ⟨af, bq, br, bz, aw, ax, ay, az, a0, a8, a9⟩ := vh bp.out a1 bh bi; cases bz; replace aw := (HB.out.cell (World.block_lt_of_cell? w _ aw)).trans aw; replace ax := (HB.out.cell (World.block_lt_of_cell? w _ ax)).trans ax; replace ay := (HB.out.cell (World.block_lt_of_cell? w _ ay)).trans ay; replace az := (HB.out.cell (World.block_lt_of_cell? w _ az)).trans az; replace a0 := (HB.out.cell (World.block_lt_of_cell? w _ a0)).trans a0; have bm := Aside0.mk a9; have bn := Aside0.mk a8; clear a9 a8; replace bh := eq_true bh; replace bi := eq_true bi) | ((with_reducible refine qI (f := 72) rfl ?_); refine zh (some 11) rfl rfl Tryz.func72 (by kernel_rfl) rfl #[.agg #[.int .i64 ((qA aa a1).f0.f0), .int .i64 ((qA aa a1).f0.f1), .int .i64 ((qA aa a1).f0.f2), .string ((qA aa a1).f0.f3), .slice bq ((qA aa a1).f1).length br]] rfl (by (try simp only [List.map_toArray, List.map_cons, List.map_nil]); first | done | rfl | (simp only [List.length_drop, List.length_take]; rfl)) ?_; (with_reducible refine (showS.calls k ((qA aa a1).f0.f0) ((qA aa a1).f0.f1) ((qA aa a1).f0.f2) ((qA aa a1).f0.f3) _ _ ((qA aa a1).f1) ag _ ?side1 ?side2 A5.out).mono ?_); (case side1 => repeat (first | exact (Kd.C_below bm.out HB.out) | (with_reducible refine Kd.C_alloc ?_ _) | (with_reducible refine Kd.C_drewN ?_ _) | (with_reducible refine Kd.C_drew ?_))); (case side2 => exact bn.out); rintro e dm ⟨rfl, hb⟩; refine ⟨_, rfl, ?_⟩; replace ab := Aside0.mk (qF (g := ae) (o := .cells #[.int .i64 av, .int .i64 a2, .int .i64 a3, .string a4, .slice (some af) aa.length a5] 130 (0, 0)) (by (with_reducible repeat (first | refine qf ?_ _ | refine qh ?_ | refine qe ?_ _)); exact ab.out) hb); replace HB := Aside0.mk (qr (by repeat (first | (with_reducible first | exact HB.out | apply q8 | apply q9 | apply qb | refine qg ?_ bd.out) | exact HB.out)) hb); (try clear hb); (try clear b6); (try clear hk); (try clear hi)))
           replace ab := Aside0.mk (qh ab.out);replace HB := Aside0.mk (qb HB.out);have bj : 0 ≤ (a1 : Int) := of_decide_eq_true (by first | (with_reducible assumption) | assumption);have bk : a1 < (aa.length : Int) := of_decide_eq_true (by first | (with_reducible assumption) | assumption);obtain ⟨bs, bf, bg, b0, am, an, ao, ap, au, ba, bb⟩ := vh bp.out a1 bj bk;have ah := au;have ai := ap;have aj := ao;have ak := an;have al := am;obtain rfl : af = bs := (by injection b0);replace am := (HB.out.cell (World.block_lt_of_cell? w _ am)).trans am;replace an := (HB.out.cell (World.block_lt_of_cell? w _ an)).trans an;replace ao := (HB.out.cell (World.block_lt_of_cell? w _ ao)).trans ao;replace ap := (HB.out.cell (World.block_lt_of_cell? w _ ap)).trans ap;replace au := (HB.out.cell (World.block_lt_of_cell? w _ au)).trans au;have bc := Aside0.mk bb;have bo := Aside0.mk ba;clear bb ba;replace bj := eq_true bj;replace bk := eq_true bk
           refine start_ (n := 12) (S := fun w' => w'.cell? ⟨ae, 0, none⟩ = some (.int .i64 av) ∧ w'.cell? ⟨ae, 1, none⟩ = some (.int .i64 a2) ∧ w'.cell? ⟨ae, 2, none⟩ = some (.int .i64 a3) ∧ w'.cell? ⟨ae, 3, none⟩ = some (.string a4) ∧ w'.cell? ⟨ae, 4, none⟩ = some (.slice (some af) aa.length a5) ∧ w'.cell? (af.add ((a1).toNat * 5)) = some (.int .i64 ((qA aa a1).f0.f0)) ∧ w'.cell? ⟨(af.add ((a1).toNat * 5)).block, (af.add ((a1).toNat * 5)).off + 1, none⟩ = some (.int .i64 ((qA aa a1).f0.f1)) ∧ w'.cell? ⟨(af.add ((a1).toNat * 5)).block, (af.add ((a1).toNat * 5)).off + 2, none⟩ = some (.int .i64 ((qA aa a1).f0.f2)) ∧ w'.cell? ⟨(af.add ((a1).toNat * 5)).block, (af.add ((a1).toNat * 5)).off + 3, none⟩ = some (.string ((qA aa a1).f0.f3)) ∧ w'.cell? ⟨(af.add ((a1).toNat * 5)).block, (af.add ((a1).toNat * 5)).off + 4, none⟩ = some (.slice bf ((qA aa a1).f1).length bg)) (ds := []) #[false, false, false, false, false, false, false, false, false, false, false, false] (by kernel_rfl) rfl rfl ⟨(qa ab.out 0).trans rfl, (qa ab.out 1).trans rfl, (qa ab.out 2).trans rfl, (qa ab.out 3).trans rfl, (qa ab.out 4).trans rfl, ((HB.out.cell (World.block_lt_of_cell? w _ al)).trans al), ((HB.out.cell (World.block_lt_of_cell? w _ ak)).trans ak), ((HB.out.cell (World.block_lt_of_cell? w _ aj)).trans aj), ((HB.out.cell (World.block_lt_of_cell? w _ ai)).trans ai), ((HB.out.cell (World.block_lt_of_cell? w _ ah)).trans ah)⟩ (fun hHeld => ?_); refine vm qp.tab2 qp.bits2 (fun HT_ HW_ => ?_)
           generalize dm.drew = d0 at ab HB bc am an ao ap au hHeld ⊢;refine zf (i := 0) (N := some 12) (v := ?_) (a' := ?_) #[true, false, false, false, false, false, false, false, false, false, false, false] rfl rfl (zd HT_.out (by kernel_rfl)) (fun _ _ _ h => h) (Or.inl ⟨by rfl, ?_⟩) ?_ ?_;rotate_left
           · intro w'
             go_simp
             with_reducible rfl
           rotate_left
           · simp only [Act.put, List.setIfInBounds_toArray, List.set_cons_zero, List.set_cons_succ, qH, qK]
             rfl
           refine zf (i := 2) (N := some 14) (v := ?_) (a' := ?_) #[true, false, true, false, false, false, false, false, false, false, false, false] rfl rfl (zd HT_.out (by kernel_rfl)) (fun _ _ _ h => h) (Or.inl ⟨by rfl, ?_⟩) ?_ ?_;rotate_left
           · intro w'
             go_simp
             with_reducible rfl
           rotate_left
           · simp only [Act.put, List.setIfInBounds_toArray, List.set_cons_zero, List.set_cons_succ, qH, qK]
             rfl
           refine zf (i := 6) (N := some 18) (v := ?_) (a' := ?_) #[true, false, true, false, false, false, true, false, false, false, false, false] rfl rfl (zd HT_.out (by kernel_rfl)) (fun _ _ _ h => h) (Or.inl ⟨by rfl, ?_⟩) ?_ ?_;rotate_left
           · intro w'
             go_simp
             with_reducible rfl
           rotate_left
           · simp only [Act.put, List.setIfInBounds_toArray, List.set_cons_zero, List.set_cons_succ, qH, qK]
             rfl
           refine zf (i := 7) (N := some 19) (v := ?_) (a' := ?_) #[true, false, true, false, false, false, true, true, false, false, false, false] rfl rfl (zd HT_.out (by kernel_rfl)) (fun _ _ _ h => h) (Or.inl ⟨by rfl, ?_⟩) ?_ ?_;rotate_left
           · intro w'
             go_simp
             with_reducible rfl
           rotate_left
           · simp only [Act.put, List.setIfInBounds_toArray, List.set_cons_zero, List.set_cons_succ, qH, qK]
             rfl
           refine zf (i := 9) (N := some 21) (v := ?_) (a' := ?_) #[true, false, true, false, false, false, true, true, false, true, false, false] rfl rfl (zd HT_.out (by kernel_rfl)) (fun _ _ _ h => h) (Or.inl ⟨by rfl, ?_⟩) ?_ ?_;rotate_left
           · intro w'
             go_simp
             with_reducible rfl
           rotate_left
           · simp only [Act.put, List.setIfInBounds_toArray, List.set_cons_zero, List.set_cons_succ, qH, qK]
             rfl
           refine xW (i := 1) (N := some 13) (v := ?_) (a' := ?_) #[true, true, true, false, false, false, true, true, false, true, false, false] rfl rfl (zP HT_.out HW_.out (by kernel_rfl)) (fun _ _ _ h => h) (Or.inl ⟨by rfl, ?_⟩) hHeld ?_ ?_;rotate_left
           · rintro w' ⟨s0, s1, s2, s3, s4, s5, s6, s7, s8, s9⟩
             go_simp
             with_reducible rfl
           rotate_left
           · simp only [Act.put, List.setIfInBounds_toArray, List.set_cons_zero, List.set_cons_succ, qH, qK]
             rfl
           refine zf (i := 3) (N := some 15) (v := ?_) (a' := ?_) #[true, true, true, true, false, false, true, true, false, true, false, false] rfl rfl (zd HT_.out (by kernel_rfl)) (fun _ _ _ h => h) (Or.inl ⟨by rfl, ?_⟩) ?_ ?_;rotate_left
           · intro w'
             go_simp
             with_reducible rfl
           rotate_left
           · simp only [Act.put, List.setIfInBounds_toArray, List.set_cons_zero, List.set_cons_succ, qH, qK]
             rfl
           refine xW (i := 4) (N := some 16) (v := ?_) (a' := ?_) #[true, true, true, true, true, false, true, true, false, true, false, false] rfl rfl (zP HT_.out HW_.out (by kernel_rfl)) (fun _ _ _ h => h) (Or.inl ⟨by rfl, ?_⟩) hHeld ?_ ?_;rotate_left
           · rintro w' ⟨s0, s1, s2, s3, s4, s5, s6, s7, s8, s9⟩
             go_simp
             with_reducible rfl
           rotate_left
           · simp only [Act.put, List.setIfInBounds_toArray, List.set_cons_zero, List.set_cons_succ, qH, qK]
             rfl
           refine xW (i := 8) (N := some 20) (v := ?_) (a' := ?_) #[true, true, true, true, true, false, true, true, true, true, false, false] rfl rfl (zP HT_.out HW_.out (by kernel_rfl)) (fun _ _ _ h => h) (Or.inl ⟨by rfl, ?_⟩) hHeld ?_ ?_;rotate_left
           · rintro w' ⟨s0, s1, s2, s3, s4, s5, s6, s7, s8, s9⟩
             go_simp
             with_reducible rfl
           rotate_left
           · simp only [Act.put, List.setIfInBounds_toArray, List.set_cons_zero, List.set_cons_succ, qH, qK]
             rfl
           refine one_ (i := 5) (N := some 17) #[true, true, true, true, true, true, true, true, true, true, false, false] rfl rfl (xC HT_.out (by kernel_rfl)) (by decide) (fun K hK => ?_);refine vF Tryz.func110 (by kernel_rfl) rfl #[.agg #[.int .i64 ((qA aa a1).f0.f0), .int .i64 ((qA aa a1).f0.f1), .int .i64 ((qA aa a1).f0.f2), .string ((qA aa a1).f0.f3), .slice bf ((qA aa a1).f1).length bg]] (by rfl) rfl rfl (by (try simp only [List.map_toArray, List.map_cons, List.map_nil]); first | done | rfl | (simp only [List.length_drop, List.length_take]; rfl)) ?_
           with_reducible refine (qj.calls k ((qA aa a1).f0.f0) ((qA aa a1).f0.f1) ((qA aa a1).f0.f2) ((qA aa a1).f0.f3) _ _ ((qA aa a1).f1) a7 _ ?side1 ?side2 A6.out).mono ?_
           (case side1 => repeat (first | exact (Kd.C_below bc.out HB.out) | (with_reducible refine Kd.C_alloc ?_ _) | (with_reducible refine Kd.C_drewN ?_ _) | (with_reducible refine Kd.C_drew ?_)))
           (case side2 => exact bo.out)
           rintro e d1 ⟨rfl, hb⟩
           refine ⟨_, rfl, ?_⟩;replace ab := Aside0.mk (qF (g := ae) (o := .cells #[.int .i64 av, .int .i64 a2, .int .i64 a3, .string a4, .slice (some af) aa.length a5] 130 (0, 0)) (by (with_reducible repeat (first | refine qf ?_ _ | refine qh ?_ | refine qe ?_ _)); exact ab.out) hb);replace HB := Aside0.mk (qr (by repeat (first | (with_reducible first | exact HB.out | apply q8 | apply q9 | apply qb | refine qg ?_ bd.out) | exact HB.out)) hb)
           (try clear hb)
           (try clear b6)
           (try clear hk)
           (try clear hi)
           refine hK.out _ _ ⟨(qa ab.out 0).trans rfl, (qa ab.out 1).trans rfl, (qa ab.out 2).trans rfl, (qa ab.out 3).trans rfl, (qa ab.out 4).trans rfl, ((HB.out.cell (World.block_lt_of_cell? w _ al)).trans al), ((HB.out.cell (World.block_lt_of_cell? w _ ak)).trans ak), ((HB.out.cell (World.block_lt_of_cell? w _ aj)).trans aj), ((HB.out.cell (World.block_lt_of_cell? w _ ai)).trans ai), ((HB.out.cell (World.block_lt_of_cell? w _ ah)).trans ah)⟩ (fun hHeld => ?_);clear hK K;refine xA (a' := ?_) ?_ ?_;rotate_left
           · show Act.put _ (some 17) _ = _
             simp only [Act.put, List.setIfInBounds_toArray, List.set_cons_zero, List.set_cons_succ, qH, qK]
             rfl
           refine one_ (i := 10) (N := some 22) #[true, true, true, true, true, true, true, true, true, true, true, false] rfl rfl (xC HT_.out (by kernel_rfl)) (by decide) (fun K hK => ?_);refine vF Tryz.func112 (by kernel_rfl) rfl #[.int .i64 av, .int .i64 a1] (by rfl) rfl rfl (by (try simp only [List.map_toArray, List.map_cons, List.map_nil]); first | done | rfl | (simp only [List.length_drop, List.length_take]; rfl)) ?_
           with_reducible refine (qk.calls k av a1 a6 _ A7.out).mono ?_
           rintro e w' ⟨rfl, ⟨nd, rfl⟩⟩
           refine ⟨_, rfl, ?_⟩;refine hK.out _ _ ⟨(qa ab.out 0).trans rfl, (qa ab.out 1).trans rfl, (qa ab.out 2).trans rfl, (qa ab.out 3).trans rfl, (qa ab.out 4).trans rfl, ((HB.out.cell (World.block_lt_of_cell? w _ al)).trans al), ((HB.out.cell (World.block_lt_of_cell? w _ ak)).trans ak), ((HB.out.cell (World.block_lt_of_cell? w _ aj)).trans aj), ((HB.out.cell (World.block_lt_of_cell? w _ ai)).trans ai), ((HB.out.cell (World.block_lt_of_cell? w _ ah)).trans ah)⟩ (fun hHeld => ?_);clear hK K;refine xA (a' := ?_) ?_ ?_;rotate_left
           · show Act.put _ (some 22) _ = _
             simp only [Act.put, List.setIfInBounds_toArray, List.set_cons_zero, List.set_cons_succ, qH, qK]
             rfl
           refine zf (i := 11) (N := some 23) (v := ?_) (a' := ?_) #[true, true, true, true, true, true, true, true, true, true, true, true] rfl rfl (zd HT_.out (by kernel_rfl)) (fun _ _ _ h => h) (Or.inl ⟨by rfl, ?_⟩) ?_ ?_;rotate_left
           · intro w'
             go_simp
             with_reducible rfl
           rotate_left
           · simp only [Act.put, List.setIfInBounds_toArray, List.set_cons_zero, List.set_cons_succ, qH, qK]
             rfl
           refine done_ (done_of HT_.out (by kernel_rfl)) ?_
           try go_wp2
           go_ret
           exact ⟨by first | rfl | (simp [qm, qn] <;> rfl) | (simp [*, qm, qn] <;> rfl), by repeat (first | (with_reducible first | exact HB.out | apply q8 | apply q9 | apply qb | refine qg ?_ bd.out) | exact HB.out)⟩
         · rw [if_neg bu] at H
           exact absurd H (by simp)
       · rw [if_neg c9] at H
         exact absurd H (by simp)
     · rw [if_neg c8] at H
       have cp : decide (a7 < a6) = false := decide_eq_false c8;clear c8;obtain rfl := Option.some.inj H
       go_enter Tryz.func114, Tryz.ntmps114
       try go_wp2_with (first | ((with_reducible refine qU (N := 2) rfl ?_); refine qQ ?hg (N := 2) ?hd (cs := #[.int .i64 av, .int .i64 a2, .int .i64 a3, .string a4, .slice bl aa.length a5]) (t := 130) ?hr ?_; (case hd => rfl); (case hg => rfl); (case hr => first | (go_simp; done) | (go_simp; rfl)); intro ae hg bw hbox hb; have ab := Aside0.mk (hbox); have ck := Aside0.mk ((by rw [hg]; exact (qw (by repeat (first | (with_reducible first | exact HB.out | apply q8 | apply q9 | apply qb) | exact HB.out))) : w.heap.size ≤ ae)); have bd := Aside0.mk ((by rw [hg]; exact (qw (by repeat (first | (with_reducible first | exact HB.out | apply q8 | apply q9 | apply qb) | exact HB.out))) : w.heap.size ≤ ae)); replace HB := Aside0.mk (qr (by repeat (first | (with_reducible first | exact HB.out | apply q8 | apply q9 | apply qb) | exact HB.out)) hb); clear hb hbox hg; have c6 : bw.cell? ⟨ae, 0, none⟩ = some (.int .i64 av) := (qa ab.out 0).trans rfl; have c7 : bw.cell? ⟨ae, 1, none⟩ = some (.int .i64 a2) := (qa ab.out 1).trans rfl; have da : bw.cell? ⟨ae, 2, none⟩ = some (.int .i64 a3) := (qa ab.out 2).trans rfl; have db : bw.cell? ⟨ae, 3, none⟩ = some (.string a4) := (qa ab.out 3).trans rfl; have dc : bw.cell? ⟨ae, 4, none⟩ = some (.slice bl aa.length a5) := (qa ab.out 4).trans rfl; have dd := qc ab.out 0; have de := qc ab.out 1; have df := qc ab.out 2; have dh := qc ab.out 3; have di := qc ab.out 4; have bh : 0 ≤ (a1 : Int) := of_decide_eq_true (by first | (with_reducible assumption) | assumption); have bi : a1 < (aa.length : Int) := of_decide_eq_true (by first | (with_reducible assumption) | assumption); obtain ⟨af, bq, br, bz, aw, ax, ay, az, a0, a8, a9⟩ := vh bp.out a1 bh bi; cases bz; replace aw := (HB.out.cell (World.block_lt_of_cell? w _ aw)).trans aw; replace ax := (HB.out.cell (World.block_lt_of_cell? w _ ax)).trans ax; replace ay := (HB.out.cell (World.block_lt_of_cell? w _ ay)).trans ay; replace az := (HB.out.cell (World.block_lt_of_cell? w _ az)).trans az; replace a0 := (HB.out.cell (World.block_lt_of_cell? w _ a0)).trans a0; have bm := Aside0.mk a9; have bn := Aside0.mk a8; clear a9 a8; replace bh := eq_true bh; replace bi := eq_true bi) | ((with_reducible refine qI (f := 72) rfl ?_); refine zh (some 11) rfl rfl Tryz.func72 (by kernel_rfl) rfl #[.agg #[.int .i64 ((qA aa a1).f0.f0), .int .i64 ((qA aa a1).f0.f1), .int .i64 ((qA aa a1).f0.f2), .string ((qA aa a1).f0.f3), .slice bq ((qA aa a1).f1).length br]] rfl (by (try simp only [List.map_toArray, List.map_cons, List.map_nil]); first | done | rfl | (simp only [List.length_drop, List.length_take]; rfl)) ?_; (with_reducible refine (showS.calls k ((qA aa a1).f0.f0) ((qA aa a1).f0.f1) ((qA aa a1).f0.f2) ((qA aa a1).f0.f3) _ _ ((qA aa a1).f1) ag _ ?side1 ?side2 A5.out).mono ?_); (case side1 => repeat (first | exact (Kd.C_below bm.out HB.out) | (with_reducible refine Kd.C_alloc ?_ _) | (with_reducible refine Kd.C_drewN ?_ _) | (with_reducible refine Kd.C_drew ?_))); (case side2 => exact bn.out); rintro e dn ⟨rfl, hb⟩; refine ⟨_, rfl, ?_⟩; replace ab := Aside0.mk (qF (g := ae) (o := .cells #[.int .i64 av, .int .i64 a2, .int .i64 a3, .string a4, .slice (some af) aa.length a5] 130 (0, 0)) (by (with_reducible repeat (first | refine qf ?_ _ | refine qh ?_ | refine qe ?_ _)); exact ab.out) hb); replace HB := Aside0.mk (qr (by repeat (first | (with_reducible first | exact HB.out | apply q8 | apply q9 | apply qb | refine qg ?_ bd.out) | exact HB.out)) hb); (try clear hb); (try clear b6); (try clear hk); (try clear hi)))
       replace ab := Aside0.mk (qh ab.out);replace HB := Aside0.mk (qb HB.out);have bj : 0 ≤ (a1 : Int) := of_decide_eq_true (by first | (with_reducible assumption) | assumption);have bk : a1 < (aa.length : Int) := of_decide_eq_true (by first | (with_reducible assumption) | assumption);obtain ⟨bs, bf, bg, b0, am, an, ao, ap, au, ba, bb⟩ := vh bp.out a1 bj bk;have ah := au;have ai := ap;have aj := ao;have ak := an;have al := am;obtain rfl : af = bs := (by injection b0);replace am := (HB.out.cell (World.block_lt_of_cell? w _ am)).trans am;replace an := (HB.out.cell (World.block_lt_of_cell? w _ an)).trans an;replace ao := (HB.out.cell (World.block_lt_of_cell? w _ ao)).trans ao;replace ap := (HB.out.cell (World.block_lt_of_cell? w _ ap)).trans ap;replace au := (HB.out.cell (World.block_lt_of_cell? w _ au)).trans au;have bc := Aside0.mk bb;have bo := Aside0.mk ba;clear bb ba;replace bj := eq_true bj;replace bk := eq_true bk
       refine start_ (n := 12) (S := fun w' => w'.cell? ⟨ae, 0, none⟩ = some (.int .i64 av) ∧ w'.cell? ⟨ae, 1, none⟩ = some (.int .i64 a2) ∧ w'.cell? ⟨ae, 2, none⟩ = some (.int .i64 a3) ∧ w'.cell? ⟨ae, 3, none⟩ = some (.string a4) ∧ w'.cell? ⟨ae, 4, none⟩ = some (.slice (some af) aa.length a5) ∧ w'.cell? (af.add ((a1).toNat * 5)) = some (.int .i64 ((qA aa a1).f0.f0)) ∧ w'.cell? ⟨(af.add ((a1).toNat * 5)).block, (af.add ((a1).toNat * 5)).off + 1, none⟩ = some (.int .i64 ((qA aa a1).f0.f1)) ∧ w'.cell? ⟨(af.add ((a1).toNat * 5)).block, (af.add ((a1).toNat * 5)).off + 2, none⟩ = some (.int .i64 ((qA aa a1).f0.f2)) ∧ w'.cell? ⟨(af.add ((a1).toNat * 5)).block, (af.add ((a1).toNat * 5)).off + 3, none⟩ = some (.string ((qA aa a1).f0.f3)) ∧ w'.cell? ⟨(af.add ((a1).toNat * 5)).block, (af.add ((a1).toNat * 5)).off + 4, none⟩ = some (.slice bf ((qA aa a1).f1).length bg)) (ds := []) #[false, false, false, false, false, false, false, false, false, false, false, false] (by kernel_rfl) rfl rfl ⟨(qa ab.out 0).trans rfl, (qa ab.out 1).trans rfl, (qa ab.out 2).trans rfl, (qa ab.out 3).trans rfl, (qa ab.out 4).trans rfl, ((HB.out.cell (World.block_lt_of_cell? w _ al)).trans al), ((HB.out.cell (World.block_lt_of_cell? w _ ak)).trans ak), ((HB.out.cell (World.block_lt_of_cell? w _ aj)).trans aj), ((HB.out.cell (World.block_lt_of_cell? w _ ai)).trans ai), ((HB.out.cell (World.block_lt_of_cell? w _ ah)).trans ah)⟩ (fun hHeld => ?_); refine vm qp.tab2 qp.bits2 (fun HT_ HW_ => ?_)
       generalize dn.drew = d3 at ab HB bc am an ao ap au hHeld ⊢;refine zf (i := 0) (N := some 12) (v := ?_) (a' := ?_) #[true, false, false, false, false, false, false, false, false, false, false, false] rfl rfl (zd HT_.out (by kernel_rfl)) (fun _ _ _ h => h) (Or.inl ⟨by rfl, ?_⟩) ?_ ?_;rotate_left
       · intro w'
         go_simp
         with_reducible rfl
       rotate_left
       · simp only [Act.put, List.setIfInBounds_toArray, List.set_cons_zero, List.set_cons_succ, qH, qK]
         rfl
       refine zf (i := 2) (N := some 14) (v := ?_) (a' := ?_) #[true, false, true, false, false, false, false, false, false, false, false, false] rfl rfl (zd HT_.out (by kernel_rfl)) (fun _ _ _ h => h) (Or.inl ⟨by rfl, ?_⟩) ?_ ?_;rotate_left
       · intro w'
         go_simp
         with_reducible rfl
       rotate_left
       · simp only [Act.put, List.setIfInBounds_toArray, List.set_cons_zero, List.set_cons_succ, qH, qK]
         rfl
       refine zf (i := 6) (N := some 18) (v := ?_) (a' := ?_) #[true, false, true, false, false, false, true, false, false, false, false, false] rfl rfl (zd HT_.out (by kernel_rfl)) (fun _ _ _ h => h) (Or.inl ⟨by rfl, ?_⟩) ?_ ?_;rotate_left
       · intro w'
         go_simp
         with_reducible rfl
       rotate_left
       · simp only [Act.put, List.setIfInBounds_toArray, List.set_cons_zero, List.set_cons_succ, qH, qK]
         rfl
       refine zf (i := 7) (N := some 19) (v := ?_) (a' := ?_) #[true, false, true, false, false, false, true, true, false, false, false, false] rfl rfl (zd HT_.out (by kernel_rfl)) (fun _ _ _ h => h) (Or.inl ⟨by rfl, ?_⟩) ?_ ?_;rotate_left
       · intro w'
         go_simp
         with_reducible rfl
       rotate_left
       · simp only [Act.put, List.setIfInBounds_toArray, List.set_cons_zero, List.set_cons_succ, qH, qK]
         rfl
       refine zf (i := 9) (N := some 21) (v := ?_) (a' := ?_) #[true, false, true, false, false, false, true, true, false, true, false, false] rfl rfl (zd HT_.out (by kernel_rfl)) (fun _ _ _ h => h) (Or.inl ⟨by rfl, ?_⟩) ?_ ?_;rotate_left
       · intro w'
         go_simp
         with_reducible rfl
       rotate_left
       · simp only [Act.put, List.setIfInBounds_toArray, List.set_cons_zero, List.set_cons_succ, qH, qK]
         rfl
       refine xW (i := 1) (N := some 13) (v := ?_) (a' := ?_) #[true, true, true, false, false, false, true, true, false, true, false, false] rfl rfl (zP HT_.out HW_.out (by kernel_rfl)) (fun _ _ _ h => h) (Or.inl ⟨by rfl, ?_⟩) hHeld ?_ ?_;rotate_left
       · rintro w' ⟨s0, s1, s2, s3, s4, s5, s6, s7, s8, s9⟩
         go_simp
         with_reducible rfl
       rotate_left
       · simp only [Act.put, List.setIfInBounds_toArray, List.set_cons_zero, List.set_cons_succ, qH, qK]
         rfl
       refine zf (i := 3) (N := some 15) (v := ?_) (a' := ?_) #[true, true, true, true, false, false, true, true, false, true, false, false] rfl rfl (zd HT_.out (by kernel_rfl)) (fun _ _ _ h => h) (Or.inl ⟨by rfl, ?_⟩) ?_ ?_;rotate_left
       · intro w'
         go_simp
         with_reducible rfl
       rotate_left
       · simp only [Act.put, List.setIfInBounds_toArray, List.set_cons_zero, List.set_cons_succ, qH, qK]
         rfl
       refine xW (i := 4) (N := some 16) (v := ?_) (a' := ?_) #[true, true, true, true, true, false, true, true, false, true, false, false] rfl rfl (zP HT_.out HW_.out (by kernel_rfl)) (fun _ _ _ h => h) (Or.inl ⟨by rfl, ?_⟩) hHeld ?_ ?_;rotate_left
       · rintro w' ⟨s0, s1, s2, s3, s4, s5, s6, s7, s8, s9⟩
         go_simp
         with_reducible rfl
       rotate_left
       · simp only [Act.put, List.setIfInBounds_toArray, List.set_cons_zero, List.set_cons_succ, qH, qK]
         rfl
       refine xW (i := 8) (N := some 20) (v := ?_) (a' := ?_) #[true, true, true, true, true, false, true, true, true, true, false, false] rfl rfl (zP HT_.out HW_.out (by kernel_rfl)) (fun _ _ _ h => h) (Or.inl ⟨by rfl, ?_⟩) hHeld ?_ ?_;rotate_left
       · rintro w' ⟨s0, s1, s2, s3, s4, s5, s6, s7, s8, s9⟩
         go_simp
         with_reducible rfl
       rotate_left
       · simp only [Act.put, List.setIfInBounds_toArray, List.set_cons_zero, List.set_cons_succ, qH, qK]
         rfl
       refine one_ (i := 5) (N := some 17) #[true, true, true, true, true, true, true, true, true, true, false, false] rfl rfl (xC HT_.out (by kernel_rfl)) (by decide) (fun K hK => ?_);refine vF Tryz.func110 (by kernel_rfl) rfl #[.agg #[.int .i64 ((qA aa a1).f0.f0), .int .i64 ((qA aa a1).f0.f1), .int .i64 ((qA aa a1).f0.f2), .string ((qA aa a1).f0.f3), .slice bf ((qA aa a1).f1).length bg]] (by rfl) rfl rfl (by (try simp only [List.map_toArray, List.map_cons, List.map_nil]); first | done | rfl | (simp only [List.length_drop, List.length_take]; rfl)) ?_
       with_reducible refine (qj.calls k ((qA aa a1).f0.f0) ((qA aa a1).f0.f1) ((qA aa a1).f0.f2) ((qA aa a1).f0.f3) _ _ ((qA aa a1).f1) a7 _ ?side1 ?side2 A6.out).mono ?_
       (case side1 => repeat (first | exact (Kd.C_below bc.out HB.out) | (with_reducible refine Kd.C_alloc ?_ _) | (with_reducible refine Kd.C_drewN ?_ _) | (with_reducible refine Kd.C_drew ?_)))
       (case side2 => exact bo.out)
       rintro e d4 ⟨rfl, hb⟩
       refine ⟨_, rfl, ?_⟩;replace ab := Aside0.mk (qF (g := ae) (o := .cells #[.int .i64 av, .int .i64 a2, .int .i64 a3, .string a4, .slice (some af) aa.length a5] 130 (0, 0)) (by (with_reducible repeat (first | refine qf ?_ _ | refine qh ?_ | refine qe ?_ _)); exact ab.out) hb);replace HB := Aside0.mk (qr (by repeat (first | (with_reducible first | exact HB.out | apply q8 | apply q9 | apply qb | refine qg ?_ bd.out) | exact HB.out)) hb)
       (try clear hb)
       (try clear b6)
       (try clear hk)
       (try clear hi)
       refine hK.out _ _ ⟨(qa ab.out 0).trans rfl, (qa ab.out 1).trans rfl, (qa ab.out 2).trans rfl, (qa ab.out 3).trans rfl, (qa ab.out 4).trans rfl, ((HB.out.cell (World.block_lt_of_cell? w _ al)).trans al), ((HB.out.cell (World.block_lt_of_cell? w _ ak)).trans ak), ((HB.out.cell (World.block_lt_of_cell? w _ aj)).trans aj), ((HB.out.cell (World.block_lt_of_cell? w _ ai)).trans ai), ((HB.out.cell (World.block_lt_of_cell? w _ ah)).trans ah)⟩ (fun hHeld => ?_);clear hK K;refine xA (a' := ?_) ?_ ?_;rotate_left
       · show Act.put _ (some 17) _ = _
         simp only [Act.put, List.setIfInBounds_toArray, List.set_cons_zero, List.set_cons_succ, qH, qK]
         rfl
       refine one_ (i := 10) (N := some 22) #[true, true, true, true, true, true, true, true, true, true, true, false] rfl rfl (xC HT_.out (by kernel_rfl)) (by decide) (fun K hK => ?_);refine vF Tryz.func112 (by kernel_rfl) rfl #[.int .i64 av, .int .i64 a1] (by rfl) rfl rfl (by (try simp only [List.map_toArray, List.map_cons, List.map_nil]); first | done | rfl | (simp only [List.length_drop, List.length_take]; rfl)) ?_
       with_reducible refine (qk.calls k av a1 a6 _ A7.out).mono ?_
       rintro e w' ⟨rfl, ⟨nd, rfl⟩⟩
       refine ⟨_, rfl, ?_⟩;refine hK.out _ _ ⟨(qa ab.out 0).trans rfl, (qa ab.out 1).trans rfl, (qa ab.out 2).trans rfl, (qa ab.out 3).trans rfl, (qa ab.out 4).trans rfl, ((HB.out.cell (World.block_lt_of_cell? w _ al)).trans al), ((HB.out.cell (World.block_lt_of_cell? w _ ak)).trans ak), ((HB.out.cell (World.block_lt_of_cell? w _ aj)).trans aj), ((HB.out.cell (World.block_lt_of_cell? w _ ai)).trans ai), ((HB.out.cell (World.block_lt_of_cell? w _ ah)).trans ah)⟩ (fun hHeld => ?_);clear hK K;refine xA (a' := ?_) ?_ ?_;rotate_left
       · show Act.put _ (some 22) _ = _
         simp only [Act.put, List.setIfInBounds_toArray, List.set_cons_zero, List.set_cons_succ, qH, qK]
         rfl
       refine zf (i := 11) (N := some 23) (v := ?_) (a' := ?_) #[true, true, true, true, true, true, true, true, true, true, true, true] rfl rfl (zd HT_.out (by kernel_rfl)) (fun _ _ _ h => h) (Or.inl ⟨by rfl, ?_⟩) ?_ ?_;rotate_left
       · intro w'
         go_simp
         with_reducible rfl
       rotate_left
       · simp only [Act.put, List.setIfInBounds_toArray, List.set_cons_zero, List.set_cons_succ, qH, qK]
         rfl
       refine done_ (done_of HT_.out (by kernel_rfl)) ?_
       try go_wp2
       go_ret
       exact ⟨by first | rfl | (simp [qm, qn] <;> rfl) | (simp [*, qm, qn] <;> rfl), by repeat (first | (with_reducible first | exact HB.out | apply q8 | apply q9 | apply qb | refine qg ?_ bd.out) | exact HB.out)⟩
   · rw [if_neg c4] at H
     exact absurd H (by simp)
 · rw [if_neg c3] at H
   exact absurd H (by simp)
def qC.l0 : Nat → Int → ByteArray → Int → Int → Int → Int → ByteArray → List (S130) → Option (ByteArray)
 | 0, _, _, _, _, _, _, _, _ => none
 | k + 1, x1, x5, x6, ab, ac, ae, af, aa => if x6 < (aa.length : Int) then (if x6 > x1 then (if x5.size + 2 ≤ 9223372036854775807 then ((qp.f k ab ac ae af aa x6).bind fun ai => (if (x5 ++ (⟨#[44, 32]⟩ : ByteArray)).size + ai.size ≤ 9223372036854775807 then (qC.l0 k x1 ((x5 ++ (⟨#[44, 32]⟩ : ByteArray)) ++ ai) (wrap64 (x6 + 1)) ab ac ae af aa) else (none))) else (none)) else ((qp.f k ab ac ae af aa x6).bind fun aj => (if x5.size + aj.size ≤ 9223372036854775807 then (qC.l0 k x1 (x5 ++ aj) (wrap64 (x6 + 1)) ab ac ae af aa) else (none)))) else (some x5)
def qC.f (k : Nat) (aa : Int) (ab : Int) (ac : Int) (ae : ByteArray) (af : List (S130)) (a1 : Int) : Option (ByteArray) := qC.l0 k a1 (⟨#[]⟩ : ByteArray) a1 aa ab ac ae af
set_option maxHeartbeats 8000000 in
set_option maxRecDepth 100000 in
theorem qC.calls (k : Nat) (af : Int) (ag : Int) (ah : Int) (ai : ByteArray) (ak : Option Addr) (al : Nat) (ac : List (S130)) (a1 : Int) (r : ByteArray) (w : World) (av : Kd.C k130 w ak ac.length ac) (aw : ac.length ≤ al) (h : qC.f k af ag ah ai ac a1 = some r) :
 Calls Tryz.prog 117 #[.agg #[.int .i64 af, .int .i64 ag, .int .i64 ah, .string ai, .slice ak ac.length al], .int .i64 a1] w fun e w' => e = .returned (.string r) ∧ Below w.heap.size w w' := by
 have cc := Tryz.underlying130;have ax := Aside0.mk av;have ay := Aside0.mk aw;clear av aw;have HB := Aside0.mk (Below.refl w.heap.size w);have H : (qC.l0 k a1 (⟨#[]⟩ : ByteArray) a1 af ag ah ai ac) = some r := h;clear h;have H' := Aside0.mk H;clear H
 go_enter Tryz.func117, Tryz.ntmps117
 go_wp2_with (first | ((with_reducible refine qU (N := 2) rfl ?_); refine qQ ?hg (N := 2) ?hd (cs := #[.int .i64 af, .int .i64 ag, .int .i64 ah, .string ai, .slice ak ac.length al]) (t := 130) ?hr ?_; (case hd => rfl); (case hg => rfl); (case hr => first | (go_simp; done) | (go_simp; rfl)); intro ab hg w3 hbox hb; have aa := Aside0.mk (hbox); have cd := Aside0.mk ((by rw [hg]; exact (qw (by repeat (first | (with_reducible first | exact HB.out | apply q8 | apply q9 | apply qb) | exact HB.out))) : w.heap.size ≤ ab)); have am := Aside0.mk ((by rw [hg]; exact (qw (by repeat (first | (with_reducible first | exact HB.out | apply q8 | apply q9 | apply qb) | exact HB.out))) : w.heap.size ≤ ab)); replace HB := Aside0.mk (qr (by repeat (first | (with_reducible first | exact HB.out | apply q8 | apply q9 | apply qb) | exact HB.out)) hb); clear hb hbox hg))
 go_loopg [5, 6] k (fun kq v5 v6 w' => ∃ (ae : ByteArray) (aj : Int), v5 = .string ae ∧ v6 = .int .i64 aj ∧ Aside0 (qC.l0 kq a1 ae aj af ag ah ai ac = some r) ∧ Aside0 (kq ≤ k) ∧ Aside0 (w'.heap[ab]? = some (.cells #[.int .i64 af, .int .i64 ag, .int .i64 ah, .string ai, (.slice ak ac.length al)] 130 (0, 0))) ∧ Aside0 (Below w.heap.size w w'))
 case atStart => exact ⟨((⟨#[]⟩ : ByteArray)), (a1), (by first | rfl | (simp; done) | (simp [*]; done)), (by first | rfl | (simp; done) | (simp [*]; done)), H', ⟨Nat.le_refl _⟩, ⟨by (with_reducible repeat (first | refine qf ?_ _ | refine qh ?_ | refine qe ?_ _)); exact aa.out⟩, ⟨by repeat (first | (with_reducible first | exact HB.out | apply q8 | apply q9 | apply qb | refine qg ?_ am.out) | exact HB.out)⟩⟩
 case round =>
  clear H'
  (try clear c1); (try clear p2)
  obtain ⟨ae, aj, rfl, rfl, HA, az, aa, HB⟩ := hrel
  cases gk with
  | zero => exact absurd HA.out (by simp [qC.l0])
  | succ k1 =>
   have H := HA.out;clear HA;simp only [qC.l0] at H
   by_cases c4 : aj < (ac.length : Int)
   · rw [if_pos c4] at H
     have a7 : decide (aj < (ac.length : Int)) = true := decide_eq_true c4;clear c4
     by_cases c5 : aj > a1
     · rw [if_pos c5] at H
       have a8 : decide (a1 < aj) = true := decide_eq_true c5;clear c5
       by_cases c6 : ae.size + 2 ≤ 9223372036854775807
       · rw [if_pos c6] at H
         have cj := eq_true c6;have ck : decide (ae.size + 2 ≤ 9223372036854775807) = true := decide_eq_true c6
         try have cm : (9223372036854775807 < ae.size + 2) = False := eq_false (Nat.not_lt.2 c6)
         replace H := Option.bind_eq_some_iff.mp H;obtain ⟨an, a6, H⟩ := H;replace H : (if (ae ++ (⟨#[44, 32]⟩ : ByteArray)).size + an.size ≤ 9223372036854775807 then (qC.l0 k1 a1 ((ae ++ (⟨#[44, 32]⟩ : ByteArray)) ++ an) (wrap64 (aj + 1)) af ag ah ai ac) else (none)) = some r := H;have A7 := Aside0.mk a6;clear a6
         by_cases c8 : (ae ++ (⟨#[44, 32]⟩ : ByteArray)).size + an.size ≤ 9223372036854775807
         · rw [if_pos c8] at H
           have co := eq_true c8;have cp : decide ((ae ++ (⟨#[44, 32]⟩ : ByteArray)).size + an.size ≤ 9223372036854775807) = true := decide_eq_true c8
           try have a4 : (9223372036854775807 < (ae ++ (⟨#[44, 32]⟩ : ByteArray)).size + an.size) = False := eq_false (Nat.not_lt.2 c8)
           try (have a9 := a4; simp only [ByteArray.size_append, ByteArray.size_extract] at a9)
           try (have ba := a4; simp only [ByteArray.size_append, ByteArray.size_extract, bsz, List.size_toArray, List.length_cons, List.length_nil, Nat.reduceAdd] at ba)
           have H' := Aside0.mk H;clear H;have bz : wr.cell? ⟨ab, 0, none⟩ = some (.int .i64 af) := (qa aa.out 0).trans rfl;have b0 : wr.cell? ⟨ab, 1, none⟩ = some (.int .i64 ag) := (qa aa.out 1).trans rfl;have b1 : wr.cell? ⟨ab, 2, none⟩ = some (.int .i64 ah) := (qa aa.out 2).trans rfl;have b2 : wr.cell? ⟨ab, 3, none⟩ = some (.string ai) := (qa aa.out 3).trans rfl;have b3 : wr.cell? ⟨ab, 4, none⟩ = some (.slice ak ac.length al) := (qa aa.out 4).trans rfl;have b4 := qc aa.out 0;have b5 := qc aa.out 1;have b6 := qc aa.out 2;have b7 := qc aa.out 3;have b8 := qc aa.out 4
           go_wp2_with (first | ((with_reducible refine qI (f := 114) rfl ?_); refine zh (some 23) rfl rfl Tryz.func114 (by kernel_rfl) rfl #[.agg #[.int .i64 af, .int .i64 ag, .int .i64 ah, .string ai, .slice ak ac.length al], .int .i64 aj] rfl (by (try simp only [List.map_toArray, List.map_cons, List.map_nil]); first | done | rfl | (simp only [List.length_drop, List.length_take]; rfl)) ?_; (with_reducible refine (qp.calls k1 af ag ah ai _ _ ac aj an _ ?side1 ?side2 A7.out).mono ?_); (case side1 => repeat (first | exact (Kd.C_below ax.out HB.out) | (with_reducible refine Kd.C_alloc ?_ _) | (with_reducible refine Kd.C_drewN ?_ _) | (with_reducible refine Kd.C_drew ?_))); (case side2 => exact ay.out); rintro e cq ⟨rfl, hb⟩; refine ⟨_, rfl, ?_⟩; replace aa := Aside0.mk (qF (g := ab) (o := .cells #[.int .i64 af, .int .i64 ag, .int .i64 ah, .string ai, .slice ak ac.length al] 130 (0, 0)) (by (with_reducible repeat (first | refine qf ?_ _ | refine qh ?_ | refine qe ?_ _)); exact aa.out) hb); replace HB := Aside0.mk (qr (by repeat (first | (with_reducible first | exact HB.out | apply q8 | apply q9 | apply qb | refine qg ?_ am.out) | exact HB.out)) hb); (try clear hb); (try clear b9); (try clear hk); (try clear hi)))
           go_roundg k1
           case measure => have := az.out; omega
           case rel => exact ⟨((ae ++ (⟨#[44, 32]⟩ : ByteArray)) ++ an), (wrap64 (aj + 1)), (by first | rfl | (simp; done) | (simp [*]; done)), (by first | rfl | (simp; done) | (simp [*]; done)), H', ⟨by have := az.out; omega⟩, ⟨by (with_reducible repeat (first | refine qf ?_ _ | refine qh ?_ | refine qe ?_ _)); exact aa.out⟩, ⟨by repeat (first | (with_reducible first | exact HB.out | apply q8 | apply q9 | apply qb | refine qg ?_ am.out) | exact HB.out)⟩⟩
         · rw [if_neg c8] at H
           exact absurd H (by simp)
       · rw [if_neg c6] at H
         exact absurd H (by simp)
     · rw [if_neg c5] at H
       have a8 : decide (a1 < aj) = false := decide_eq_false c5;clear c5;replace H := Option.bind_eq_some_iff.mp H;obtain ⟨ao, a5, H⟩ := H;replace H : (if ae.size + ao.size ≤ 9223372036854775807 then (qC.l0 k1 a1 (ae ++ ao) (wrap64 (aj + 1)) af ag ah ai ac) else (none)) = some r := H;have cb := Aside0.mk a5;clear a5
       by_cases au : ae.size + ao.size ≤ 9223372036854775807
       · rw [if_pos au] at H
         have ce := eq_true au;have cf : decide (ae.size + ao.size ≤ 9223372036854775807) = true := decide_eq_true au
         try have cg : (9223372036854775807 < ae.size + ao.size) = False := eq_false (Nat.not_lt.2 au)
         have H' := Aside0.mk H;clear H;have bb : wr.cell? ⟨ab, 0, none⟩ = some (.int .i64 af) := (qa aa.out 0).trans rfl;have bc : wr.cell? ⟨ab, 1, none⟩ = some (.int .i64 ag) := (qa aa.out 1).trans rfl;have bd : wr.cell? ⟨ab, 2, none⟩ = some (.int .i64 ah) := (qa aa.out 2).trans rfl;have bf : wr.cell? ⟨ab, 3, none⟩ = some (.string ai) := (qa aa.out 3).trans rfl;have bg : wr.cell? ⟨ab, 4, none⟩ = some (.slice ak ac.length al) := (qa aa.out 4).trans rfl;have bh := qc aa.out 0;have bi := qc aa.out 1;have bj := qc aa.out 2;have bk := qc aa.out 3;have bl := qc aa.out 4
         go_wp2_with (first | ((with_reducible refine qI (f := 114) rfl ?_); refine zh (some 23) rfl rfl Tryz.func114 (by kernel_rfl) rfl #[.agg #[.int .i64 af, .int .i64 ag, .int .i64 ah, .string ai, .slice ak ac.length al], .int .i64 aj] rfl (by (try simp only [List.map_toArray, List.map_cons, List.map_nil]); first | done | rfl | (simp only [List.length_drop, List.length_take]; rfl)) ?_; (with_reducible refine (qp.calls k1 af ag ah ai _ _ ac aj ao _ ?side1 ?side2 cb.out).mono ?_); (case side1 => repeat (first | exact (Kd.C_below ax.out HB.out) | (with_reducible refine Kd.C_alloc ?_ _) | (with_reducible refine Kd.C_drewN ?_ _) | (with_reducible refine Kd.C_drew ?_))); (case side2 => exact ay.out); rintro e cr ⟨rfl, hb⟩; refine ⟨_, rfl, ?_⟩; replace aa := Aside0.mk (qF (g := ab) (o := .cells #[.int .i64 af, .int .i64 ag, .int .i64 ah, .string ai, .slice ak ac.length al] 130 (0, 0)) (by (with_reducible repeat (first | refine qf ?_ _ | refine qh ?_ | refine qe ?_ _)); exact aa.out) hb); replace HB := Aside0.mk (qr (by repeat (first | (with_reducible first | exact HB.out | apply q8 | apply q9 | apply qb | refine qg ?_ am.out) | exact HB.out)) hb); (try clear hb); (try clear b9); (try clear hk); (try clear hi)))
         go_roundg k1
         case measure => have := az.out; omega
         case rel => exact ⟨(ae ++ ao), (wrap64 (aj + 1)), (by first | rfl | (simp; done) | (simp [*]; done)), (by first | rfl | (simp; done) | (simp [*]; done)), H', ⟨by have := az.out; omega⟩, ⟨by (with_reducible repeat (first | refine qf ?_ _ | refine qh ?_ | refine qe ?_ _)); exact aa.out⟩, ⟨by repeat (first | (with_reducible first | exact HB.out | apply q8 | apply q9 | apply qb | refine qg ?_ am.out) | exact HB.out)⟩⟩
       · rw [if_neg au] at H
         exact absurd H (by simp)
   · rw [if_neg c4] at H
     have a7 : decide (aj < (ac.length : Int)) = false := decide_eq_false c4;clear c4;obtain rfl := Option.some.inj H;have bm : wr.cell? ⟨ab, 0, none⟩ = some (.int .i64 af) := (qa aa.out 0).trans rfl;have bn : wr.cell? ⟨ab, 1, none⟩ = some (.int .i64 ag) := (qa aa.out 1).trans rfl;have bo : wr.cell? ⟨ab, 2, none⟩ = some (.int .i64 ah) := (qa aa.out 2).trans rfl;have bp : wr.cell? ⟨ab, 3, none⟩ = some (.string ai) := (qa aa.out 3).trans rfl;have bq : wr.cell? ⟨ab, 4, none⟩ = some (.slice ak ac.length al) := (qa aa.out 4).trans rfl;have br := qc aa.out 0;have bs := qc aa.out 1;have bu := qc aa.out 2;have bv := qc aa.out 3;have bw := qc aa.out 4;go_wp2
     go_ret
     exact ⟨by first | rfl | (simp [qm, qn] <;> rfl) | (simp [*, qm, qn] <;> rfl), by repeat (first | (with_reducible first | exact HB.out | apply q8 | apply q9 | apply qb | refine qg ?_ am.out) | exact HB.out)⟩
def qM.f (k : Nat) (ab : Int) (ae : Int) (af : Int) (ag : ByteArray) (ah : List (S130)) (a1 : ByteArray) : Option (ByteArray) := (qp.f k ab ae af ag ah 0).bind fun aa => (if ab = 26 then (if aa.size + 1 ≤ 9223372036854775807 then (if (aa ++ (⟨#[32]⟩ : ByteArray)).size + a1.size ≤ 9223372036854775807 then (if ((aa ++ (⟨#[32]⟩ : ByteArray)) ++ a1).size + 8 ≤ 9223372036854775807 then ((qp.f k ab ae af ag ah 1).bind fun ai => (if (((aa ++ (⟨#[32]⟩ : ByteArray)) ++ a1) ++ (⟨#[66, 69, 84, 87, 69, 69, 78, 32]⟩ : ByteArray)).size + ai.size ≤ 9223372036854775807 then (if ((((aa ++ (⟨#[32]⟩ : ByteArray)) ++ a1) ++ (⟨#[66, 69, 84, 87, 69, 69, 78, 32]⟩ : ByteArray)) ++ ai).size + 5 ≤ 9223372036854775807 then ((qp.f k ab ae af ag ah 2).bind fun ak => (if (((((aa ++ (⟨#[32]⟩ : ByteArray)) ++ a1) ++ (⟨#[66, 69, 84, 87, 69, 69, 78, 32]⟩ : ByteArray)) ++ ai) ++ (⟨#[32, 65, 78, 68, 32]⟩ : ByteArray)).size + ak.size ≤ 9223372036854775807 then (some ((((((aa ++ (⟨#[32]⟩ : ByteArray)) ++ a1) ++ (⟨#[66, 69, 84, 87, 69, 69, 78, 32]⟩ : ByteArray)) ++ ai) ++ (⟨#[32, 65, 78, 68, 32]⟩ : ByteArray)) ++ ak)) else (none))) else (none)) else (none))) else (none)) else (none)) else (none)) else (if ab = 27 then (if aa.size + 1 ≤ 9223372036854775807 then (if (aa ++ (⟨#[32]⟩ : ByteArray)).size + a1.size ≤ 9223372036854775807 then (if ((aa ++ (⟨#[32]⟩ : ByteArray)) ++ a1).size + 4 ≤ 9223372036854775807 then ((qC.f k ab ae af ag ah 1).bind fun aj => (if (((aa ++ (⟨#[32]⟩ : ByteArray)) ++ a1) ++ (⟨#[73, 78, 32, 40]⟩ : ByteArray)).size + aj.size ≤ 9223372036854775807 then (if ((((aa ++ (⟨#[32]⟩ : ByteArray)) ++ a1) ++ (⟨#[73, 78, 32, 40]⟩ : ByteArray)) ++ aj).size + 1 ≤ 9223372036854775807 then (some (((((aa ++ (⟨#[32]⟩ : ByteArray)) ++ a1) ++ (⟨#[73, 78, 32, 40]⟩ : ByteArray)) ++ aj) ++ (⟨#[41]⟩ : ByteArray))) else (none)) else (none))) else (none)) else (none)) else (none)) else (if aa.size + 1 ≤ 9223372036854775807 then (if (aa ++ (⟨#[32]⟩ : ByteArray)).size + a1.size ≤ 9223372036854775807 then (if ((aa ++ (⟨#[32]⟩ : ByteArray)) ++ a1).size + 5 ≤ 9223372036854775807 then ((qp.f k ab ae af ag ah 1).bind fun al => (if (((aa ++ (⟨#[32]⟩ : ByteArray)) ++ a1) ++ (⟨#[76, 73, 75, 69, 32]⟩ : ByteArray)).size + al.size ≤ 9223372036854775807 then (some ((((aa ++ (⟨#[32]⟩ : ByteArray)) ++ a1) ++ (⟨#[76, 73, 75, 69, 32]⟩ : ByteArray)) ++ al)) else (none))) else (none)) else (none)) else (none))))
def qM.T4 : Bool × List (List Nat × List Nat) := (true, [([], []), ([0], [0]), ([], []), ([1, 2], [1, 2]), ([3], [3]), ([], []), ([5], [5]), ([4, 6], [4, 6]), ([7], [7]), ([], []), ([9, 6], [9]), ([8, 10], [8, 10]), ([11, 10, 0, 1, 2, 3, 4, 5, 6, 7, 8, 9, 10, 11], [11])])
def qM.B4 : List Nat := [0, 1, 0, 7, 15, 0, 32, 127, 255, 0, 608, 2047, 4095]
theorem qM.tab4 : rtab .any (opsOf Tryz.f115 4) = qM.T4 := by kernel_rfl
theorem qM.bits4 : vg qM.T4.2 qM.B4 = true := by kernel_rfl
set_option maxHeartbeats 8000000 in
set_option maxRecDepth 100000 in
theorem qM.calls (k : Nat) (ae : Int) (ag : Int) (ah : Int) (ai : ByteArray) (ak : Option Addr) (al : Nat) (af : List (S130)) (a1 : ByteArray) (r : ByteArray) (w : World) (bh : Kd.C k130 w ak af.length af) (bi : af.length ≤ al) (h : qM.f k ae ag ah ai af a1 = some r) :
 Calls Tryz.prog 115 #[.agg #[.int .i64 ae, .int .i64 ag, .int .i64 ah, .string ai, .slice ak af.length al], .string a1] w fun e w' => e = .returned (.string r) ∧ Below w.heap.size w w' := by
 have ff := Tryz.underlying130;have av := Aside0.mk bh;have aw := Aside0.mk bi;clear bh bi;have HB := Aside0.mk (Below.refl w.heap.size w);have H : ((qp.f k ae ag ah ai af 0).bind fun ab => (if ae = 26 then (if ab.size + 1 ≤ 9223372036854775807 then (if (ab ++ (⟨#[32]⟩ : ByteArray)).size + a1.size ≤ 9223372036854775807 then (if ((ab ++ (⟨#[32]⟩ : ByteArray)) ++ a1).size + 8 ≤ 9223372036854775807 then ((qp.f k ae ag ah ai af 1).bind fun am => (if (((ab ++ (⟨#[32]⟩ : ByteArray)) ++ a1) ++ (⟨#[66, 69, 84, 87, 69, 69, 78, 32]⟩ : ByteArray)).size + am.size ≤ 9223372036854775807 then (if ((((ab ++ (⟨#[32]⟩ : ByteArray)) ++ a1) ++ (⟨#[66, 69, 84, 87, 69, 69, 78, 32]⟩ : ByteArray)) ++ am).size + 5 ≤ 9223372036854775807 then ((qp.f k ae ag ah ai af 2).bind fun ap => (if (((((ab ++ (⟨#[32]⟩ : ByteArray)) ++ a1) ++ (⟨#[66, 69, 84, 87, 69, 69, 78, 32]⟩ : ByteArray)) ++ am) ++ (⟨#[32, 65, 78, 68, 32]⟩ : ByteArray)).size + ap.size ≤ 9223372036854775807 then (some ((((((ab ++ (⟨#[32]⟩ : ByteArray)) ++ a1) ++ (⟨#[66, 69, 84, 87, 69, 69, 78, 32]⟩ : ByteArray)) ++ am) ++ (⟨#[32, 65, 78, 68, 32]⟩ : ByteArray)) ++ ap)) else (none))) else (none)) else (none))) else (none)) else (none)) else (none)) else (if ae = 27 then (if ab.size + 1 ≤ 9223372036854775807 then (if (ab ++ (⟨#[32]⟩ : ByteArray)).size + a1.size ≤ 9223372036854775807 then (if ((ab ++ (⟨#[32]⟩ : ByteArray)) ++ a1).size + 4 ≤ 9223372036854775807 then ((qC.f k ae ag ah ai af 1).bind fun an => (if (((ab ++ (⟨#[32]⟩ : ByteArray)) ++ a1) ++ (⟨#[73, 78, 32, 40]⟩ : ByteArray)).size + an.size ≤ 9223372036854775807 then (if ((((ab ++ (⟨#[32]⟩ : ByteArray)) ++ a1) ++ (⟨#[73, 78, 32, 40]⟩ : ByteArray)) ++ an).size + 1 ≤ 9223372036854775807 then (some (((((ab ++ (⟨#[32]⟩ : ByteArray)) ++ a1) ++ (⟨#[73, 78, 32, 40]⟩ : ByteArray)) ++ an) ++ (⟨#[41]⟩ : ByteArray))) else (none)) else (none))) else (none)) else (none)) else (none)) else (if ab.size + 1 ≤ 9223372036854775807 then (if (ab ++ (⟨#[32]⟩ : ByteArray)).size + a1.size ≤ 9223372036854775807 then (if ((ab ++ (⟨#[32]⟩ : ByteArray)) ++ a1).size + 5 ≤ 9223372036854775807 then ((qp.f k ae ag ah ai af 1).bind fun au => (if (((ab ++ (⟨#[32]⟩ : ByteArray)) ++ a1) ++ (⟨#[76, 73, 75, 69, 32]⟩ : ByteArray)).size + au.size ≤ 9223372036854775807 then (some ((((ab ++ (⟨#[32]⟩ : ByteArray)) ++ a1) ++ (⟨#[76, 73, 75, 69, 32]⟩ : ByteArray)) ++ au)) else (none))) else (none)) else (none)) else (none))))) = some r := h;clear h;replace H := Option.bind_eq_some_iff.mp H;obtain ⟨ab, ct, H⟩ := H;replace H : (if ae = 26 then (if ab.size + 1 ≤ 9223372036854775807 then (if (ab ++ (⟨#[32]⟩ : ByteArray)).size + a1.size ≤ 9223372036854775807 then (if ((ab ++ (⟨#[32]⟩ : ByteArray)) ++ a1).size + 8 ≤ 9223372036854775807 then ((qp.f k ae ag ah ai af 1).bind fun am => (if (((ab ++ (⟨#[32]⟩ : ByteArray)) ++ a1) ++ (⟨#[66, 69, 84, 87, 69, 69, 78, 32]⟩ : ByteArray)).size + am.size ≤ 9223372036854775807 then (if ((((ab ++ (⟨#[32]⟩ : ByteArray)) ++ a1) ++ (⟨#[66, 69, 84, 87, 69, 69, 78, 32]⟩ : ByteArray)) ++ am).size + 5 ≤ 9223372036854775807 then ((qp.f k ae ag ah ai af 2).bind fun ap => (if (((((ab ++ (⟨#[32]⟩ : ByteArray)) ++ a1) ++ (⟨#[66, 69, 84, 87, 69, 69, 78, 32]⟩ : ByteArray)) ++ am) ++ (⟨#[32, 65, 78, 68, 32]⟩ : ByteArray)).size + ap.size ≤ 9223372036854775807 then (some ((((((ab ++ (⟨#[32]⟩ : ByteArray)) ++ a1) ++ (⟨#[66, 69, 84, 87, 69, 69, 78, 32]⟩ : ByteArray)) ++ am) ++ (⟨#[32, 65, 78, 68, 32]⟩ : ByteArray)) ++ ap)) else (none))) else (none)) else (none))) else (none)) else (none)) else (none)) else (if ae = 27 then (if ab.size + 1 ≤ 9223372036854775807 then (if (ab ++ (⟨#[32]⟩ : ByteArray)).size + a1.size ≤ 9223372036854775807 then (if ((ab ++ (⟨#[32]⟩ : ByteArray)) ++ a1).size + 4 ≤ 9223372036854775807 then ((qC.f k ae ag ah ai af 1).bind fun an => (if (((ab ++ (⟨#[32]⟩ : ByteArray)) ++ a1) ++ (⟨#[73, 78, 32, 40]⟩ : ByteArray)).size + an.size ≤ 9223372036854775807 then (if ((((ab ++ (⟨#[32]⟩ : ByteArray)) ++ a1) ++ (⟨#[73, 78, 32, 40]⟩ : ByteArray)) ++ an).size + 1 ≤ 9223372036854775807 then (some (((((ab ++ (⟨#[32]⟩ : ByteArray)) ++ a1) ++ (⟨#[73, 78, 32, 40]⟩ : ByteArray)) ++ an) ++ (⟨#[41]⟩ : ByteArray))) else (none)) else (none))) else (none)) else (none)) else (none)) else (if ab.size + 1 ≤ 9223372036854775807 then (if (ab ++ (⟨#[32]⟩ : ByteArray)).size + a1.size ≤ 9223372036854775807 then (if ((ab ++ (⟨#[32]⟩ : ByteArray)) ++ a1).size + 5 ≤ 9223372036854775807 then ((qp.f k ae ag ah ai af 1).bind fun au => (if (((ab ++ (⟨#[32]⟩ : ByteArray)) ++ a1) ++ (⟨#[76, 73, 75, 69, 32]⟩ : ByteArray)).size + au.size ≤ 9223372036854775807 then (some ((((ab ++ (⟨#[32]⟩ : ByteArray)) ++ a1) ++ (⟨#[76, 73, 75, 69, 32]⟩ : ByteArray)) ++ au)) else (none))) else (none)) else (none)) else (none)))) = some r := H;have A3 := Aside0.mk ct;clear ct
 by_cases c4 : ae = 26
 · rw [if_pos c4] at H
   have cw : (ae == 26) = true := beq_iff_eq.mpr c4;have cx : (ae != 26) = false := bne_eq_false_iff_eq.mpr c4;clear c4
   by_cases c5 : ab.size + 1 ≤ 9223372036854775807
   · rw [if_pos c5] at H
     have f9 := eq_true c5;have ga : decide (ab.size + 1 ≤ 9223372036854775807) = true := decide_eq_true c5
     try have gb : (9223372036854775807 < ab.size + 1) = False := eq_false (Nat.not_lt.2 c5)
     by_cases c6 : (ab ++ (⟨#[32]⟩ : ByteArray)).size + a1.size ≤ 9223372036854775807
     · rw [if_pos c6] at H
       have gf := eq_true c6;have gg : decide ((ab ++ (⟨#[32]⟩ : ByteArray)).size + a1.size ≤ 9223372036854775807) = true := decide_eq_true c6
       try have bw : (9223372036854775807 < (ab ++ (⟨#[32]⟩ : ByteArray)).size + a1.size) = False := eq_false (Nat.not_lt.2 c6)
       try (have cy := bw; simp only [ByteArray.size_append, ByteArray.size_extract] at cy)
       try (have cz := bw; simp only [ByteArray.size_append, ByteArray.size_extract, bsz, List.size_toArray, List.length_cons, List.length_nil, Nat.reduceAdd] at cz)
       by_cases c7 : ((ab ++ (⟨#[32]⟩ : ByteArray)) ++ a1).size + 8 ≤ 9223372036854775807
       · rw [if_pos c7] at H
         have gh := eq_true c7;have gi : decide (((ab ++ (⟨#[32]⟩ : ByteArray)) ++ a1).size + 8 ≤ 9223372036854775807) = true := decide_eq_true c7
         try have b0 : (9223372036854775807 < ((ab ++ (⟨#[32]⟩ : ByteArray)) ++ a1).size + 8) = False := eq_false (Nat.not_lt.2 c7)
         try (have c8 := b0; simp only [ByteArray.size_append, ByteArray.size_extract] at c8)
         try (have da := b0; simp only [ByteArray.size_append, ByteArray.size_extract, bsz, List.size_toArray, List.length_cons, List.length_nil, Nat.reduceAdd] at da)
         replace H := Option.bind_eq_some_iff.mp H;obtain ⟨am, cu, H⟩ := H;replace H : (if (((ab ++ (⟨#[32]⟩ : ByteArray)) ++ a1) ++ (⟨#[66, 69, 84, 87, 69, 69, 78, 32]⟩ : ByteArray)).size + am.size ≤ 9223372036854775807 then (if ((((ab ++ (⟨#[32]⟩ : ByteArray)) ++ a1) ++ (⟨#[66, 69, 84, 87, 69, 69, 78, 32]⟩ : ByteArray)) ++ am).size + 5 ≤ 9223372036854775807 then ((qp.f k ae ag ah ai af 2).bind fun ap => (if (((((ab ++ (⟨#[32]⟩ : ByteArray)) ++ a1) ++ (⟨#[66, 69, 84, 87, 69, 69, 78, 32]⟩ : ByteArray)) ++ am) ++ (⟨#[32, 65, 78, 68, 32]⟩ : ByteArray)).size + ap.size ≤ 9223372036854775807 then (some ((((((ab ++ (⟨#[32]⟩ : ByteArray)) ++ a1) ++ (⟨#[66, 69, 84, 87, 69, 69, 78, 32]⟩ : ByteArray)) ++ am) ++ (⟨#[32, 65, 78, 68, 32]⟩ : ByteArray)) ++ ap)) else (none))) else (none)) else (none)) = some r := H;have A8 := Aside0.mk cu;clear cu
         by_cases c9 : (((ab ++ (⟨#[32]⟩ : ByteArray)) ++ a1) ++ (⟨#[66, 69, 84, 87, 69, 69, 78, 32]⟩ : ByteArray)).size + am.size ≤ 9223372036854775807
         · rw [if_pos c9] at H
           have gk := eq_true c9;have gl : decide ((((ab ++ (⟨#[32]⟩ : ByteArray)) ++ a1) ++ (⟨#[66, 69, 84, 87, 69, 69, 78, 32]⟩ : ByteArray)).size + am.size ≤ 9223372036854775807) = true := decide_eq_true c9
           try have b2 : (9223372036854775807 < (((ab ++ (⟨#[32]⟩ : ByteArray)) ++ a1) ++ (⟨#[66, 69, 84, 87, 69, 69, 78, 32]⟩ : ByteArray)).size + am.size) = False := eq_false (Nat.not_lt.2 c9)
           try (have db := b2; simp only [ByteArray.size_append, ByteArray.size_extract] at db)
           try (have dc := b2; simp only [ByteArray.size_append, ByteArray.size_extract, bsz, List.size_toArray, List.length_cons, List.length_nil, Nat.reduceAdd] at dc)
           by_cases a0 : ((((ab ++ (⟨#[32]⟩ : ByteArray)) ++ a1) ++ (⟨#[66, 69, 84, 87, 69, 69, 78, 32]⟩ : ByteArray)) ++ am).size + 5 ≤ 9223372036854775807
           · rw [if_pos a0] at H
             have fg := eq_true a0;have fh : decide (((((ab ++ (⟨#[32]⟩ : ByteArray)) ++ a1) ++ (⟨#[66, 69, 84, 87, 69, 69, 78, 32]⟩ : ByteArray)) ++ am).size + 5 ≤ 9223372036854775807) = true := decide_eq_true a0
             try have bj : (9223372036854775807 < ((((ab ++ (⟨#[32]⟩ : ByteArray)) ++ a1) ++ (⟨#[66, 69, 84, 87, 69, 69, 78, 32]⟩ : ByteArray)) ++ am).size + 5) = False := eq_false (Nat.not_lt.2 a0)
             try (have b6 := bj; simp only [ByteArray.size_append, ByteArray.size_extract] at b6)
             try (have b7 := bj; simp only [ByteArray.size_append, ByteArray.size_extract, bsz, List.size_toArray, List.length_cons, List.length_nil, Nat.reduceAdd] at b7)
             replace H := Option.bind_eq_some_iff.mp H;obtain ⟨ap, b3, H⟩ := H;replace H : (if (((((ab ++ (⟨#[32]⟩ : ByteArray)) ++ a1) ++ (⟨#[66, 69, 84, 87, 69, 69, 78, 32]⟩ : ByteArray)) ++ am) ++ (⟨#[32, 65, 78, 68, 32]⟩ : ByteArray)).size + ap.size ≤ 9223372036854775807 then (some ((((((ab ++ (⟨#[32]⟩ : ByteArray)) ++ a1) ++ (⟨#[66, 69, 84, 87, 69, 69, 78, 32]⟩ : ByteArray)) ++ am) ++ (⟨#[32, 65, 78, 68, 32]⟩ : ByteArray)) ++ ap)) else (none)) = some r := H;have fb := Aside0.mk b3;clear b3
             by_cases a2 : (((((ab ++ (⟨#[32]⟩ : ByteArray)) ++ a1) ++ (⟨#[66, 69, 84, 87, 69, 69, 78, 32]⟩ : ByteArray)) ++ am) ++ (⟨#[32, 65, 78, 68, 32]⟩ : ByteArray)).size + ap.size ≤ 9223372036854775807
             · rw [if_pos a2] at H
               have fi := eq_true a2;have fj : decide ((((((ab ++ (⟨#[32]⟩ : ByteArray)) ++ a1) ++ (⟨#[66, 69, 84, 87, 69, 69, 78, 32]⟩ : ByteArray)) ++ am) ++ (⟨#[32, 65, 78, 68, 32]⟩ : ByteArray)).size + ap.size ≤ 9223372036854775807) = true := decide_eq_true a2
               try have bk : (9223372036854775807 < (((((ab ++ (⟨#[32]⟩ : ByteArray)) ++ a1) ++ (⟨#[66, 69, 84, 87, 69, 69, 78, 32]⟩ : ByteArray)) ++ am) ++ (⟨#[32, 65, 78, 68, 32]⟩ : ByteArray)).size + ap.size) = False := eq_false (Nat.not_lt.2 a2)
               try (have b8 := bk; simp only [ByteArray.size_append, ByteArray.size_extract] at b8)
               try (have b9 := bk; simp only [ByteArray.size_append, ByteArray.size_extract, bsz, List.size_toArray, List.length_cons, List.length_nil, Nat.reduceAdd] at b9)
               obtain rfl := Option.some.inj H
               go_enter Tryz.func115, Tryz.ntmps115
               try go_wp2_with (first | ((with_reducible refine qU (N := 2) rfl ?_); refine qQ ?hg (N := 2) ?hd (cs := #[.int .i64 ae, .int .i64 ag, .int .i64 ah, .string ai, .slice ak af.length al]) (t := 130) ?hr ?_; (case hd => rfl); (case hg => rfl); (case hr => first | (go_simp; done) | (go_simp; rfl)); intro ac hg a3 hbox hb; have aa := Aside0.mk (hbox); have bl := Aside0.mk ((by rw [hg]; exact (qw (by repeat (first | (with_reducible first | exact HB.out | apply q8 | apply q9 | apply qb) | exact HB.out))) : w.heap.size ≤ ac)); have ao := Aside0.mk ((by rw [hg]; exact (qw (by repeat (first | (with_reducible first | exact HB.out | apply q8 | apply q9 | apply qb) | exact HB.out))) : w.heap.size ≤ ac)); replace HB := Aside0.mk (qr (by repeat (first | (with_reducible first | exact HB.out | apply q8 | apply q9 | apply qb) | exact HB.out)) hb); clear hb hbox hg; have dd : a3.cell? ⟨ac, 0, none⟩ = some (.int .i64 ae) := (qa aa.out 0).trans rfl; have de : a3.cell? ⟨ac, 1, none⟩ = some (.int .i64 ag) := (qa aa.out 1).trans rfl; have df : a3.cell? ⟨ac, 2, none⟩ = some (.int .i64 ah) := (qa aa.out 2).trans rfl; have dh : a3.cell? ⟨ac, 3, none⟩ = some (.string ai) := (qa aa.out 3).trans rfl; have di : a3.cell? ⟨ac, 4, none⟩ = some (.slice ak af.length al) := (qa aa.out 4).trans rfl; have dj := qc aa.out 0; have dk := qc aa.out 1; have dl := qc aa.out 2; have dm := qc aa.out 3; have dn := qc aa.out 4) | ((with_reducible refine qI (f := 114) rfl ?_); refine zh (some 7) rfl rfl Tryz.func114 (by kernel_rfl) rfl #[.agg #[.int .i64 ae, .int .i64 ag, .int .i64 ah, .string ai, .slice ak af.length al], .int .i64 0] rfl (by (try simp only [List.map_toArray, List.map_cons, List.map_nil]); first | done | rfl | (simp only [List.length_drop, List.length_take]; rfl)) ?_; (with_reducible refine (qp.calls k ae ag ah ai _ _ af 0 ab _ ?side1 ?side2 A3.out).mono ?_); (case side1 => repeat (first | exact (Kd.C_below av.out HB.out) | (with_reducible refine Kd.C_alloc ?_ _) | (with_reducible refine Kd.C_drewN ?_ _) | (with_reducible refine Kd.C_drew ?_))); (case side2 => exact aw.out); rintro e ay ⟨rfl, hb⟩; refine ⟨_, rfl, ?_⟩; replace aa := Aside0.mk (qF (g := ac) (o := .cells #[.int .i64 ae, .int .i64 ag, .int .i64 ah, .string ai, .slice ak af.length al] 130 (0, 0)) (by (with_reducible repeat (first | refine qf ?_ _ | refine qh ?_ | refine qe ?_ _)); exact aa.out) hb); replace HB := Aside0.mk (qr (by repeat (first | (with_reducible first | exact HB.out | apply q8 | apply q9 | apply qb | refine qg ?_ ao.out) | exact HB.out)) hb); (try clear hb); (try clear az); (try clear hk); (try clear hi); have dq : ay.cell? ⟨ac, 0, none⟩ = some (.int .i64 ae) := (qa aa.out 0).trans rfl; have dr : ay.cell? ⟨ac, 1, none⟩ = some (.int .i64 ag) := (qa aa.out 1).trans rfl; have dt : ay.cell? ⟨ac, 2, none⟩ = some (.int .i64 ah) := (qa aa.out 2).trans rfl; have du : ay.cell? ⟨ac, 3, none⟩ = some (.string ai) := (qa aa.out 3).trans rfl; have dv : ay.cell? ⟨ac, 4, none⟩ = some (.slice ak af.length al) := (qa aa.out 4).trans rfl; have dw := qc aa.out 0; have dx := qc aa.out 1; have dy := qc aa.out 2; have dz := qc aa.out 3; have d0 := qc aa.out 4))
               replace aa := Aside0.mk (qh aa.out);replace HB := Aside0.mk (qb HB.out)
               refine start_ (n := 13) (S := fun w' => w'.cell? ⟨ac, 0, none⟩ = some (.int .i64 ae) ∧ w'.cell? ⟨ac, 1, none⟩ = some (.int .i64 ag) ∧ w'.cell? ⟨ac, 2, none⟩ = some (.int .i64 ah) ∧ w'.cell? ⟨ac, 3, none⟩ = some (.string ai) ∧ w'.cell? ⟨ac, 4, none⟩ = some (.slice ak af.length al)) (ds := []) #[false, false, false, false, false, false, false, false, false, false, false, false, false] (by kernel_rfl) rfl rfl ⟨(qa aa.out 0).trans rfl, (qa aa.out 1).trans rfl, (qa aa.out 2).trans rfl, (qa aa.out 3).trans rfl, (qa aa.out 4).trans rfl⟩ (fun hHeld => ?_); refine vm qM.tab4 qM.bits4 (fun HT_ HW_ => ?_)
               generalize ay.drew = gs at aa HB hHeld ⊢;refine zf (i := 0) (N := some 13) (v := ?_) (a' := ?_) #[true, false, false, false, false, false, false, false, false, false, false, false, false] rfl rfl (zd HT_.out (by kernel_rfl)) (fun _ _ _ h => h) (Or.inl ⟨by rfl, ?_⟩) ?_ ?_;rotate_left
               · intro w'
                 go_simp
                 with_reducible rfl
               rotate_left
               · simp only [Act.put, List.setIfInBounds_toArray, List.set_cons_zero, List.set_cons_succ, qH, qK]
                 rfl
               refine zf (i := 1) (N := some 14) (v := ?_) (a' := ?_) #[true, true, false, false, false, false, false, false, false, false, false, false, false] rfl rfl (zd HT_.out (by kernel_rfl)) (fun _ _ _ h => h) (Or.inl ⟨by rfl, ?_⟩) ?_ ?_;rotate_left
               · intro w'
                 go_simp
                 with_reducible rfl
               rotate_left
               · simp only [Act.put, List.setIfInBounds_toArray, List.set_cons_zero, List.set_cons_succ, qH, qK]
                 rfl
               refine zf (i := 2) (N := some 15) (v := ?_) (a' := ?_) #[true, true, true, false, false, false, false, false, false, false, false, false, false] rfl rfl (zd HT_.out (by kernel_rfl)) (fun _ _ _ h => h) (Or.inl ⟨by rfl, ?_⟩) ?_ ?_;rotate_left
               · intro w'
                 go_simp
                 with_reducible rfl
               rotate_left
               · simp only [Act.put, List.setIfInBounds_toArray, List.set_cons_zero, List.set_cons_succ, qH, qK]
                 rfl
               refine zf (i := 3) (N := some 16) (v := ?_) (a' := ?_) #[true, true, true, true, false, false, false, false, false, false, false, false, false] rfl rfl (zd HT_.out (by kernel_rfl)) (fun _ _ _ h => h) (Or.inl ⟨by rfl, ?_⟩) ?_ ?_;rotate_left
               · intro w'
                 go_simp
                 with_reducible rfl
               rotate_left
               · simp only [Act.put, List.setIfInBounds_toArray, List.set_cons_zero, List.set_cons_succ, qH, qK]
                 rfl
               refine zf (i := 4) (N := some 17) (v := ?_) (a' := ?_) #[true, true, true, true, true, false, false, false, false, false, false, false, false] rfl rfl (zd HT_.out (by kernel_rfl)) (fun _ _ _ h => h) (Or.inl ⟨by rfl, ?_⟩) ?_ ?_;rotate_left
               · intro w'
                 go_simp
                 with_reducible rfl
               rotate_left
               · simp only [Act.put, List.setIfInBounds_toArray, List.set_cons_zero, List.set_cons_succ, qH, qK]
                 rfl
               refine xW (i := 5) (N := some 18) (v := ?_) (a' := ?_) #[true, true, true, true, true, true, false, false, false, false, false, false, false] rfl rfl (zP HT_.out HW_.out (by kernel_rfl)) (fun _ _ _ h => h) (Or.inl ⟨by rfl, ?_⟩) hHeld ?_ ?_;rotate_left
               · rintro w' ⟨s0, s1, s2, s3, s4⟩
                 go_simp
                 with_reducible rfl
               rotate_left
               · simp only [Act.put, List.setIfInBounds_toArray, List.set_cons_zero, List.set_cons_succ, qH, qK]
                 rfl
               refine xW (i := 9) (N := some 22) (v := ?_) (a' := ?_) #[true, true, true, true, true, true, false, false, false, true, false, false, false] rfl rfl (zP HT_.out HW_.out (by kernel_rfl)) (fun _ _ _ h => h) (Or.inl ⟨by rfl, ?_⟩) hHeld ?_ ?_;rotate_left
               · rintro w' ⟨s0, s1, s2, s3, s4⟩
                 go_simp
                 with_reducible rfl
               rotate_left
               · simp only [Act.put, List.setIfInBounds_toArray, List.set_cons_zero, List.set_cons_succ, qH, qK]
                 rfl
               refine one_ (i := 6) (N := some 19) #[true, true, true, true, true, true, true, false, false, true, false, false, false] rfl rfl (xC HT_.out (by kernel_rfl)) (by decide) (fun K hK => ?_);refine vF Tryz.func114 (by kernel_rfl) rfl #[.agg #[.int .i64 ae, .int .i64 ag, .int .i64 ah, .string ai, .slice ak af.length al], .int .i64 1] (by rfl) rfl rfl (by (try simp only [List.map_toArray, List.map_cons, List.map_nil]); first | done | rfl | (simp only [List.length_drop, List.length_take]; rfl)) ?_
               with_reducible refine (qp.calls k ae ag ah ai _ _ af 1 am _ ?side1 ?side2 A8.out).mono ?_
               (case side1 => repeat (first | exact (Kd.C_below av.out HB.out) | (with_reducible refine Kd.C_alloc ?_ _) | (with_reducible refine Kd.C_drewN ?_ _) | (with_reducible refine Kd.C_drew ?_)))
               (case side2 => exact aw.out)
               rintro e gu ⟨rfl, hb⟩
               refine ⟨_, rfl, ?_⟩;replace aa := Aside0.mk (qF (g := ac) (o := .cells #[.int .i64 ae, .int .i64 ag, .int .i64 ah, .string ai, .slice ak af.length al] 130 (0, 0)) (by (with_reducible repeat (first | refine qf ?_ _ | refine qh ?_ | refine qe ?_ _)); exact aa.out) hb);replace HB := Aside0.mk (qr (by repeat (first | (with_reducible first | exact HB.out | apply q8 | apply q9 | apply qb | refine qg ?_ ao.out) | exact HB.out)) hb)
               (try clear hb)
               (try clear az)
               (try clear hk)
               (try clear hi)
               refine hK.out _ _ ⟨(qa aa.out 0).trans rfl, (qa aa.out 1).trans rfl, (qa aa.out 2).trans rfl, (qa aa.out 3).trans rfl, (qa aa.out 4).trans rfl⟩ (fun hHeld => ?_);clear hK K;refine xA (a' := ?_) ?_ ?_;rotate_left
               · show Act.put _ (some 19) _ = _
                 simp only [Act.put, List.setIfInBounds_toArray, List.set_cons_zero, List.set_cons_succ, qH, qK]
                 rfl
               refine zf (i := 7) (N := some 20) (v := ?_) (a' := ?_) #[true, true, true, true, true, true, true, true, false, true, false, false, false] rfl rfl (zd HT_.out (by kernel_rfl)) (fun _ _ _ h => h) (Or.inl ⟨by rfl, ?_⟩) ?_ ?_;rotate_left
               · intro w'
                 go_simp
                 with_reducible rfl
               rotate_left
               · simp only [Act.put, List.setIfInBounds_toArray, List.set_cons_zero, List.set_cons_succ, qH, qK]
                 rfl
               refine zf (i := 8) (N := some 21) (v := ?_) (a' := ?_) #[true, true, true, true, true, true, true, true, true, true, false, false, false] rfl rfl (zd HT_.out (by kernel_rfl)) (fun _ _ _ h => h) (Or.inl ⟨by rfl, ?_⟩) ?_ ?_;rotate_left
               · intro w'
                 go_simp
                 with_reducible rfl
               rotate_left
               · simp only [Act.put, List.setIfInBounds_toArray, List.set_cons_zero, List.set_cons_succ, qH, qK]
                 rfl
               refine one_ (i := 10) (N := some 23) #[true, true, true, true, true, true, true, true, true, true, true, false, false] rfl rfl (xC HT_.out (by kernel_rfl)) (by decide) (fun K hK => ?_);refine vF Tryz.func114 (by kernel_rfl) rfl #[.agg #[.int .i64 ae, .int .i64 ag, .int .i64 ah, .string ai, .slice ak af.length al], .int .i64 2] (by rfl) rfl rfl (by (try simp only [List.map_toArray, List.map_cons, List.map_nil]); first | done | rfl | (simp only [List.length_drop, List.length_take]; rfl)) ?_
               with_reducible refine (qp.calls k ae ag ah ai _ _ af 2 ap _ ?side1 ?side2 fb.out).mono ?_
               (case side1 => repeat (first | exact (Kd.C_below av.out HB.out) | (with_reducible refine Kd.C_alloc ?_ _) | (with_reducible refine Kd.C_drewN ?_ _) | (with_reducible refine Kd.C_drew ?_)))
               (case side2 => exact aw.out)
               rintro e gv ⟨rfl, hb⟩
               refine ⟨_, rfl, ?_⟩;replace aa := Aside0.mk (qF (g := ac) (o := .cells #[.int .i64 ae, .int .i64 ag, .int .i64 ah, .string ai, .slice ak af.length al] 130 (0, 0)) (by (with_reducible repeat (first | refine qf ?_ _ | refine qh ?_ | refine qe ?_ _)); exact aa.out) hb);replace HB := Aside0.mk (qr (by repeat (first | (with_reducible first | exact HB.out | apply q8 | apply q9 | apply qb | refine qg ?_ ao.out) | exact HB.out)) hb)
               (try clear hb)
               (try clear az)
               (try clear hk)
               (try clear hi)
               refine hK.out _ _ ⟨(qa aa.out 0).trans rfl, (qa aa.out 1).trans rfl, (qa aa.out 2).trans rfl, (qa aa.out 3).trans rfl, (qa aa.out 4).trans rfl⟩ (fun hHeld => ?_);clear hK K;refine xA (a' := ?_) ?_ ?_;rotate_left
               · show Act.put _ (some 23) _ = _
                 simp only [Act.put, List.setIfInBounds_toArray, List.set_cons_zero, List.set_cons_succ, qH, qK]
                 rfl
               refine zf (i := 11) (N := some 24) (v := ?_) (a' := ?_) #[true, true, true, true, true, true, true, true, true, true, true, true, false] rfl rfl (zd HT_.out (by kernel_rfl)) (fun _ _ _ h => h) (Or.inl ⟨by rfl, ?_⟩) ?_ ?_;rotate_left
               · intro w'
                 go_simp
                 with_reducible rfl
               rotate_left
               · simp only [Act.put, List.setIfInBounds_toArray, List.set_cons_zero, List.set_cons_succ, qH, qK]
                 rfl
               refine zf (i := 12) (N := some 4) (v := ?_) (a' := ?_) #[true, true, true, true, true, true, true, true, true, true, true, true, true] rfl rfl (zd HT_.out (by kernel_rfl)) (fun _ _ _ h => h) (Or.inl ⟨by rfl, ?_⟩) ?_ ?_;rotate_left
               · intro w'
                 go_simp
                 with_reducible rfl
               rotate_left
               · simp only [Act.put, List.setIfInBounds_toArray, List.set_cons_zero, List.set_cons_succ, qH, qK]
                 rfl
               refine done_ (done_of HT_.out (by kernel_rfl)) ?_
               try go_wp2
               go_ret
               exact ⟨by first | rfl | (simp [qm, qn] <;> rfl) | (simp [*, qm, qn] <;> rfl), by repeat (first | (with_reducible first | exact HB.out | apply q8 | apply q9 | apply qb | refine qg ?_ ao.out) | exact HB.out)⟩
             · rw [if_neg a2] at H
               exact absurd H (by simp)
           · rw [if_neg a0] at H
             exact absurd H (by simp)
         · rw [if_neg c9] at H
           exact absurd H (by simp)
       · rw [if_neg c7] at H
         exact absurd H (by simp)
     · rw [if_neg c6] at H
       exact absurd H (by simp)
   · rw [if_neg c5] at H
     exact absurd H (by simp)
 · rw [if_neg c4] at H
   have cw : (ae == 26) = false := beq_eq_false_iff_ne.mpr c4;have cx : (ae != 26) = true := bne_iff_ne.mpr c4
   by_cases ax : ae = 27
   · rw [if_pos ax] at H
     have cb : (ae == 27) = true := beq_iff_eq.mpr ax;have cc : (ae != 27) = false := bne_eq_false_iff_eq.mpr ax;clear ax
     by_cases a4 : ab.size + 1 ≤ 9223372036854775807
     · rw [if_pos a4] at H
       have fk := eq_true a4;have fl : decide (ab.size + 1 ≤ 9223372036854775807) = true := decide_eq_true a4
       try have fm : (9223372036854775807 < ab.size + 1) = False := eq_false (Nat.not_lt.2 a4)
       by_cases a5 : (ab ++ (⟨#[32]⟩ : ByteArray)).size + a1.size ≤ 9223372036854775807
       · rw [if_pos a5] at H
         have fn := eq_true a5;have fo : decide ((ab ++ (⟨#[32]⟩ : ByteArray)).size + a1.size ≤ 9223372036854775807) = true := decide_eq_true a5
         try have bm : (9223372036854775807 < (ab ++ (⟨#[32]⟩ : ByteArray)).size + a1.size) = False := eq_false (Nat.not_lt.2 a5)
         try (have cd := bm; simp only [ByteArray.size_append, ByteArray.size_extract] at cd)
         try (have ce := bm; simp only [ByteArray.size_append, ByteArray.size_extract, bsz, List.size_toArray, List.length_cons, List.length_nil, Nat.reduceAdd] at ce)
         by_cases a6 : ((ab ++ (⟨#[32]⟩ : ByteArray)) ++ a1).size + 4 ≤ 9223372036854775807
         · rw [if_pos a6] at H
           have fp := eq_true a6;have fq : decide (((ab ++ (⟨#[32]⟩ : ByteArray)) ++ a1).size + 4 ≤ 9223372036854775807) = true := decide_eq_true a6
           try have bn : (9223372036854775807 < ((ab ++ (⟨#[32]⟩ : ByteArray)) ++ a1).size + 4) = False := eq_false (Nat.not_lt.2 a6)
           try (have cf := bn; simp only [ByteArray.size_append, ByteArray.size_extract] at cf)
           try (have cg := bn; simp only [ByteArray.size_append, ByteArray.size_extract, bsz, List.size_toArray, List.length_cons, List.length_nil, Nat.reduceAdd] at cg)
           replace H := Option.bind_eq_some_iff.mp H;obtain ⟨an, b4, H⟩ := H;replace H : (if (((ab ++ (⟨#[32]⟩ : ByteArray)) ++ a1) ++ (⟨#[73, 78, 32, 40]⟩ : ByteArray)).size + an.size ≤ 9223372036854775807 then (if ((((ab ++ (⟨#[32]⟩ : ByteArray)) ++ a1) ++ (⟨#[73, 78, 32, 40]⟩ : ByteArray)) ++ an).size + 1 ≤ 9223372036854775807 then (some (((((ab ++ (⟨#[32]⟩ : ByteArray)) ++ a1) ++ (⟨#[73, 78, 32, 40]⟩ : ByteArray)) ++ an) ++ (⟨#[41]⟩ : ByteArray))) else (none)) else (none)) = some r := H;have fc := Aside0.mk b4;clear b4
           by_cases a7 : (((ab ++ (⟨#[32]⟩ : ByteArray)) ++ a1) ++ (⟨#[73, 78, 32, 40]⟩ : ByteArray)).size + an.size ≤ 9223372036854775807
           · rw [if_pos a7] at H
             have fr := eq_true a7;have ft : decide ((((ab ++ (⟨#[32]⟩ : ByteArray)) ++ a1) ++ (⟨#[73, 78, 32, 40]⟩ : ByteArray)).size + an.size ≤ 9223372036854775807) = true := decide_eq_true a7
             try have bo : (9223372036854775807 < (((ab ++ (⟨#[32]⟩ : ByteArray)) ++ a1) ++ (⟨#[73, 78, 32, 40]⟩ : ByteArray)).size + an.size) = False := eq_false (Nat.not_lt.2 a7)
             try (have ch := bo; simp only [ByteArray.size_append, ByteArray.size_extract] at ch)
             try (have ci := bo; simp only [ByteArray.size_append, ByteArray.size_extract, bsz, List.size_toArray, List.length_cons, List.length_nil, Nat.reduceAdd] at ci)
             by_cases a8 : ((((ab ++ (⟨#[32]⟩ : ByteArray)) ++ a1) ++ (⟨#[73, 78, 32, 40]⟩ : ByteArray)) ++ an).size + 1 ≤ 9223372036854775807
             · rw [if_pos a8] at H
               have fu := eq_true a8;have fv : decide (((((ab ++ (⟨#[32]⟩ : ByteArray)) ++ a1) ++ (⟨#[73, 78, 32, 40]⟩ : ByteArray)) ++ an).size + 1 ≤ 9223372036854775807) = true := decide_eq_true a8
               try have bp : (9223372036854775807 < ((((ab ++ (⟨#[32]⟩ : ByteArray)) ++ a1) ++ (⟨#[73, 78, 32, 40]⟩ : ByteArray)) ++ an).size + 1) = False := eq_false (Nat.not_lt.2 a8)
               try (have cj := bp; simp only [ByteArray.size_append, ByteArray.size_extract] at cj)
               try (have ck := bp; simp only [ByteArray.size_append, ByteArray.size_extract, bsz, List.size_toArray, List.length_cons, List.length_nil, Nat.reduceAdd] at ck)
               obtain rfl := Option.some.inj H
               go_enter Tryz.func115, Tryz.ntmps115
               go_wp2_with (first | ((with_reducible refine qU (N := 2) rfl ?_); refine qQ ?hg (N := 2) ?hd (cs := #[.int .i64 ae, .int .i64 ag, .int .i64 ah, .string ai, .slice ak af.length al]) (t := 130) ?hr ?_; (case hd => rfl); (case hg => rfl); (case hr => first | (go_simp; done) | (go_simp; rfl)); intro ac hg a9 hbox hb; have aa := Aside0.mk (hbox); have bl := Aside0.mk ((by rw [hg]; exact (qw (by repeat (first | (with_reducible first | exact HB.out | apply q8 | apply q9 | apply qb) | exact HB.out))) : w.heap.size ≤ ac)); have ao := Aside0.mk ((by rw [hg]; exact (qw (by repeat (first | (with_reducible first | exact HB.out | apply q8 | apply q9 | apply qb) | exact HB.out))) : w.heap.size ≤ ac)); replace HB := Aside0.mk (qr (by repeat (first | (with_reducible first | exact HB.out | apply q8 | apply q9 | apply qb) | exact HB.out)) hb); clear hb hbox hg; have d1 : a9.cell? ⟨ac, 0, none⟩ = some (.int .i64 ae) := (qa aa.out 0).trans rfl; have d3 : a9.cell? ⟨ac, 1, none⟩ = some (.int .i64 ag) := (qa aa.out 1).trans rfl; have d4 : a9.cell? ⟨ac, 2, none⟩ = some (.int .i64 ah) := (qa aa.out 2).trans rfl; have d5 : a9.cell? ⟨ac, 3, none⟩ = some (.string ai) := (qa aa.out 3).trans rfl; have d6 : a9.cell? ⟨ac, 4, none⟩ = some (.slice ak af.length al) := (qa aa.out 4).trans rfl; have d7 := qc aa.out 0; have d8 := qc aa.out 1; have d9 := qc aa.out 2; have ea := qc aa.out 3; have eb := qc aa.out 4) | ((with_reducible refine qI (f := 114) rfl ?_); refine zh (some 7) rfl rfl Tryz.func114 (by kernel_rfl) rfl #[.agg #[.int .i64 ae, .int .i64 ag, .int .i64 ah, .string ai, .slice ak af.length al], .int .i64 0] rfl (by (try simp only [List.map_toArray, List.map_cons, List.map_nil]); first | done | rfl | (simp only [List.length_drop, List.length_take]; rfl)) ?_; (with_reducible refine (qp.calls k ae ag ah ai _ _ af 0 ab _ ?side1 ?side2 A3.out).mono ?_); (case side1 => repeat (first | exact (Kd.C_below av.out HB.out) | (with_reducible refine Kd.C_alloc ?_ _) | (with_reducible refine Kd.C_drewN ?_ _) | (with_reducible refine Kd.C_drew ?_))); (case side2 => exact aw.out); rintro e ba ⟨rfl, hb⟩; refine ⟨_, rfl, ?_⟩; replace aa := Aside0.mk (qF (g := ac) (o := .cells #[.int .i64 ae, .int .i64 ag, .int .i64 ah, .string ai, .slice ak af.length al] 130 (0, 0)) (by (with_reducible repeat (first | refine qf ?_ _ | refine qh ?_ | refine qe ?_ _)); exact aa.out) hb); replace HB := Aside0.mk (qr (by repeat (first | (with_reducible first | exact HB.out | apply q8 | apply q9 | apply qb | refine qg ?_ ao.out) | exact HB.out)) hb); (try clear hb); (try clear az); (try clear hk); (try clear hi); have ec : ba.cell? ⟨ac, 0, none⟩ = some (.int .i64 ae) := (qa aa.out 0).trans rfl; have ed : ba.cell? ⟨ac, 1, none⟩ = some (.int .i64 ag) := (qa aa.out 1).trans rfl; have ee : ba.cell? ⟨ac, 2, none⟩ = some (.int .i64 ah) := (qa aa.out 2).trans rfl; have ef : ba.cell? ⟨ac, 3, none⟩ = some (.string ai) := (qa aa.out 3).trans rfl; have eg : ba.cell? ⟨ac, 4, none⟩ = some (.slice ak af.length al) := (qa aa.out 4).trans rfl; have eh := qc aa.out 0; have ei := qc aa.out 1; have ej := qc aa.out 2; have ek := qc aa.out 3; have em := qc aa.out 4) | ((with_reducible refine qI (f := 117) rfl ?_); refine zh (some 33) rfl rfl Tryz.func117 (by kernel_rfl) rfl #[.agg #[.int .i64 ae, .int .i64 ag, .int .i64 ah, .string ai, .slice ak af.length al], .int .i64 1] rfl (by (try simp only [List.map_toArray, List.map_cons, List.map_nil]); first | done | rfl | (simp only [List.length_drop, List.length_take]; rfl)) ?_; (with_reducible refine (qC.calls k ae ag ah ai _ _ af 1 an _ ?side1 ?side2 fc.out).mono ?_); (case side1 => repeat (first | exact (Kd.C_below av.out HB.out) | (with_reducible refine Kd.C_alloc ?_ _) | (with_reducible refine Kd.C_drewN ?_ _) | (with_reducible refine Kd.C_drew ?_))); (case side2 => exact aw.out); rintro e gw ⟨rfl, hb⟩; refine ⟨_, rfl, ?_⟩; replace aa := Aside0.mk (qF (g := ac) (o := .cells #[.int .i64 ae, .int .i64 ag, .int .i64 ah, .string ai, .slice ak af.length al] 130 (0, 0)) (by (with_reducible repeat (first | refine qf ?_ _ | refine qh ?_ | refine qe ?_ _)); exact aa.out) hb); replace HB := Aside0.mk (qr (by repeat (first | (with_reducible first | exact HB.out | apply q8 | apply q9 | apply qb | refine qg ?_ ao.out) | exact HB.out)) hb); (try clear hb); (try clear az); (try clear hk); (try clear hi)))
               go_ret
               exact ⟨by first | rfl | (simp [qm, qn] <;> rfl) | (simp [*, qm, qn] <;> rfl), by repeat (first | (with_reducible first | exact HB.out | apply q8 | apply q9 | apply qb | refine qg ?_ ao.out) | exact HB.out)⟩
             · rw [if_neg a8] at H
               exact absurd H (by simp)
           · rw [if_neg a7] at H
             exact absurd H (by simp)
         · rw [if_neg a6] at H
           exact absurd H (by simp)
       · rw [if_neg a5] at H
         exact absurd H (by simp)
     · rw [if_neg a4] at H
       exact absurd H (by simp)
   · rw [if_neg ax] at H
     have cb : (ae == 27) = false := beq_eq_false_iff_ne.mpr ax;have cc : (ae != 27) = true := bne_iff_ne.mpr ax
     by_cases c32 : ab.size + 1 ≤ 9223372036854775807
     · rw [if_pos c32] at H
       have fw := eq_true c32;have fx : decide (ab.size + 1 ≤ 9223372036854775807) = true := decide_eq_true c32
       try have fy : (9223372036854775807 < ab.size + 1) = False := eq_false (Nat.not_lt.2 c32)
       by_cases bb : (ab ++ (⟨#[32]⟩ : ByteArray)).size + a1.size ≤ 9223372036854775807
       · rw [if_pos bb] at H
         have fz := eq_true bb;have f4 : decide ((ab ++ (⟨#[32]⟩ : ByteArray)).size + a1.size ≤ 9223372036854775807) = true := decide_eq_true bb
         try have bq : (9223372036854775807 < (ab ++ (⟨#[32]⟩ : ByteArray)).size + a1.size) = False := eq_false (Nat.not_lt.2 bb)
         try (have cm := bq; simp only [ByteArray.size_append, ByteArray.size_extract] at cm)
         try (have cn := bq; simp only [ByteArray.size_append, ByteArray.size_extract, bsz, List.size_toArray, List.length_cons, List.length_nil, Nat.reduceAdd] at cn)
         by_cases bc : ((ab ++ (⟨#[32]⟩ : ByteArray)) ++ a1).size + 5 ≤ 9223372036854775807
         · rw [if_pos bc] at H
           have f5 := eq_true bc;have f6 : decide (((ab ++ (⟨#[32]⟩ : ByteArray)) ++ a1).size + 5 ≤ 9223372036854775807) = true := decide_eq_true bc
           try have br : (9223372036854775807 < ((ab ++ (⟨#[32]⟩ : ByteArray)) ++ a1).size + 5) = False := eq_false (Nat.not_lt.2 bc)
           try (have co := br; simp only [ByteArray.size_append, ByteArray.size_extract] at co)
           try (have cp := br; simp only [ByteArray.size_append, ByteArray.size_extract, bsz, List.size_toArray, List.length_cons, List.length_nil, Nat.reduceAdd] at cp)
           replace H := Option.bind_eq_some_iff.mp H;obtain ⟨au, b5, H⟩ := H;replace H : (if (((ab ++ (⟨#[32]⟩ : ByteArray)) ++ a1) ++ (⟨#[76, 73, 75, 69, 32]⟩ : ByteArray)).size + au.size ≤ 9223372036854775807 then (some ((((ab ++ (⟨#[32]⟩ : ByteArray)) ++ a1) ++ (⟨#[76, 73, 75, 69, 32]⟩ : ByteArray)) ++ au)) else (none)) = some r := H;have fe := Aside0.mk b5;clear b5
           by_cases bd : (((ab ++ (⟨#[32]⟩ : ByteArray)) ++ a1) ++ (⟨#[76, 73, 75, 69, 32]⟩ : ByteArray)).size + au.size ≤ 9223372036854775807
           · rw [if_pos bd] at H
             have f7 := eq_true bd;have f8 : decide ((((ab ++ (⟨#[32]⟩ : ByteArray)) ++ a1) ++ (⟨#[76, 73, 75, 69, 32]⟩ : ByteArray)).size + au.size ≤ 9223372036854775807) = true := decide_eq_true bd
             try have bs : (9223372036854775807 < (((ab ++ (⟨#[32]⟩ : ByteArray)) ++ a1) ++ (⟨#[76, 73, 75, 69, 32]⟩ : ByteArray)).size + au.size) = False := eq_false (Nat.not_lt.2 bd)
             try (have cq := bs; simp only [ByteArray.size_append, ByteArray.size_extract] at cq)
             try (have cr := bs; simp only [ByteArray.size_append, ByteArray.size_extract, bsz, List.size_toArray, List.length_cons, List.length_nil, Nat.reduceAdd] at cr)
             obtain rfl := Option.some.inj H
             go_enter Tryz.func115, Tryz.ntmps115
             go_wp2_with (first | ((with_reducible refine qU (N := 2) rfl ?_); refine qQ ?hg (N := 2) ?hd (cs := #[.int .i64 ae, .int .i64 ag, .int .i64 ah, .string ai, .slice ak af.length al]) (t := 130) ?hr ?_; (case hd => rfl); (case hg => rfl); (case hr => first | (go_simp; done) | (go_simp; rfl)); intro ac hg bf hbox hb; have aa := Aside0.mk (hbox); have bl := Aside0.mk ((by rw [hg]; exact (qw (by repeat (first | (with_reducible first | exact HB.out | apply q8 | apply q9 | apply qb) | exact HB.out))) : w.heap.size ≤ ac)); have ao := Aside0.mk ((by rw [hg]; exact (qw (by repeat (first | (with_reducible first | exact HB.out | apply q8 | apply q9 | apply qb) | exact HB.out))) : w.heap.size ≤ ac)); replace HB := Aside0.mk (qr (by repeat (first | (with_reducible first | exact HB.out | apply q8 | apply q9 | apply qb) | exact HB.out)) hb); clear hb hbox hg; have en : bf.cell? ⟨ac, 0, none⟩ = some (.int .i64 ae) := (qa aa.out 0).trans rfl; have eo : bf.cell? ⟨ac, 1, none⟩ = some (.int .i64 ag) := (qa aa.out 1).trans rfl; have ep : bf.cell? ⟨ac, 2, none⟩ = some (.int .i64 ah) := (qa aa.out 2).trans rfl; have et : bf.cell? ⟨ac, 3, none⟩ = some (.string ai) := (qa aa.out 3).trans rfl; have eu : bf.cell? ⟨ac, 4, none⟩ = some (.slice ak af.length al) := (qa aa.out 4).trans rfl; have ev := qc aa.out 0; have ew := qc aa.out 1; have ey := qc aa.out 2; have ez := qc aa.out 3; have e0 := qc aa.out 4) | ((with_reducible refine qI (f := 114) rfl ?_); refine zh (some 7) rfl rfl Tryz.func114 (by kernel_rfl) rfl #[.agg #[.int .i64 ae, .int .i64 ag, .int .i64 ah, .string ai, .slice ak af.length al], .int .i64 0] rfl (by (try simp only [List.map_toArray, List.map_cons, List.map_nil]); first | done | rfl | (simp only [List.length_drop, List.length_take]; rfl)) ?_; (with_reducible refine (qp.calls k ae ag ah ai _ _ af 0 ab _ ?side1 ?side2 A3.out).mono ?_); (case side1 => repeat (first | exact (Kd.C_below av.out HB.out) | (with_reducible refine Kd.C_alloc ?_ _) | (with_reducible refine Kd.C_drewN ?_ _) | (with_reducible refine Kd.C_drew ?_))); (case side2 => exact aw.out); rintro e bg ⟨rfl, hb⟩; refine ⟨_, rfl, ?_⟩; replace aa := Aside0.mk (qF (g := ac) (o := .cells #[.int .i64 ae, .int .i64 ag, .int .i64 ah, .string ai, .slice ak af.length al] 130 (0, 0)) (by (with_reducible repeat (first | refine qf ?_ _ | refine qh ?_ | refine qe ?_ _)); exact aa.out) hb); replace HB := Aside0.mk (qr (by repeat (first | (with_reducible first | exact HB.out | apply q8 | apply q9 | apply qb | refine qg ?_ ao.out) | exact HB.out)) hb); (try clear hb); (try clear az); (try clear hk); (try clear hi); have e1 : bg.cell? ⟨ac, 0, none⟩ = some (.int .i64 ae) := (qa aa.out 0).trans rfl; have e2 : bg.cell? ⟨ac, 1, none⟩ = some (.int .i64 ag) := (qa aa.out 1).trans rfl; have e3 : bg.cell? ⟨ac, 2, none⟩ = some (.int .i64 ah) := (qa aa.out 2).trans rfl; have e4 : bg.cell? ⟨ac, 3, none⟩ = some (.string ai) := (qa aa.out 3).trans rfl; have e5 : bg.cell? ⟨ac, 4, none⟩ = some (.slice ak af.length al) := (qa aa.out 4).trans rfl; have e6 := qc aa.out 0; have e7 := qc aa.out 1; have e8 := qc aa.out 2; have e9 := qc aa.out 3; have fa := qc aa.out 4) | ((with_reducible refine qI (f := 114) rfl ?_); refine zh (some 42) rfl rfl Tryz.func114 (by kernel_rfl) rfl #[.agg #[.int .i64 ae, .int .i64 ag, .int .i64 ah, .string ai, .slice ak af.length al], .int .i64 1] rfl (by (try simp only [List.map_toArray, List.map_cons, List.map_nil]); first | done | rfl | (simp only [List.length_drop, List.length_take]; rfl)) ?_; (with_reducible refine (qp.calls k ae ag ah ai _ _ af 1 au _ ?side1 ?side2 fe.out).mono ?_); (case side1 => repeat (first | exact (Kd.C_below av.out HB.out) | (with_reducible refine Kd.C_alloc ?_ _) | (with_reducible refine Kd.C_drewN ?_ _) | (with_reducible refine Kd.C_drew ?_))); (case side2 => exact aw.out); rintro e gx ⟨rfl, hb⟩; refine ⟨_, rfl, ?_⟩; replace aa := Aside0.mk (qF (g := ac) (o := .cells #[.int .i64 ae, .int .i64 ag, .int .i64 ah, .string ai, .slice ak af.length al] 130 (0, 0)) (by (with_reducible repeat (first | refine qf ?_ _ | refine qh ?_ | refine qe ?_ _)); exact aa.out) hb); replace HB := Aside0.mk (qr (by repeat (first | (with_reducible first | exact HB.out | apply q8 | apply q9 | apply qb | refine qg ?_ ao.out) | exact HB.out)) hb); (try clear hb); (try clear az); (try clear hk); (try clear hi)))
             go_ret
             exact ⟨by first | rfl | (simp [qm, qn] <;> rfl) | (simp [*, qm, qn] <;> rfl), by repeat (first | (with_reducible first | exact HB.out | apply q8 | apply q9 | apply qb | refine qg ?_ ao.out) | exact HB.out)⟩
           · rw [if_neg bd] at H
             exact absurd H (by simp)
         · rw [if_neg bc] at H
           exact absurd H (by simp)
       · rw [if_neg bb] at H
         exact absurd H (by simp)
     · rw [if_neg c32] at H
       exact absurd H (by simp)
def qE.l0 : Nat → ByteArray → Int → Int → Int → Int → ByteArray → List (S130) → Option (ByteArray)
 | 0, _, _, _, _, _, _, _ => none
 | k + 1, x3, x4, ab, ac, ae, af, aa => if (wrap64 (x4 + 1)) < (aa.length : Int) then (if x3.size + 6 ≤ 9223372036854775807 then ((qp.f k ab ac ae af aa x4).bind fun ah => (if (x3 ++ (⟨#[32, 87, 72, 69, 78, 32]⟩ : ByteArray)).size + ah.size ≤ 9223372036854775807 then (if ((x3 ++ (⟨#[32, 87, 72, 69, 78, 32]⟩ : ByteArray)) ++ ah).size + 6 ≤ 9223372036854775807 then ((qp.f k ab ac ae af aa (wrap64 (x4 + 1))).bind fun aj => (if (((x3 ++ (⟨#[32, 87, 72, 69, 78, 32]⟩ : ByteArray)) ++ ah) ++ (⟨#[32, 84, 72, 69, 78, 32]⟩ : ByteArray)).size + aj.size ≤ 9223372036854775807 then (qE.l0 k ((((x3 ++ (⟨#[32, 87, 72, 69, 78, 32]⟩ : ByteArray)) ++ ah) ++ (⟨#[32, 84, 72, 69, 78, 32]⟩ : ByteArray)) ++ aj) (wrap64 (x4 + 2)) ab ac ae af aa) else (none))) else (none)) else (none))) else (none)) else (if x3.size + 6 ≤ 9223372036854775807 then ((qp.f k ab ac ae af aa (wrap64 ((aa.length : Int) - 1))).bind fun ai => (if (x3 ++ (⟨#[32, 69, 76, 83, 69, 32]⟩ : ByteArray)).size + ai.size ≤ 9223372036854775807 then (if ((x3 ++ (⟨#[32, 69, 76, 83, 69, 32]⟩ : ByteArray)) ++ ai).size + 4 ≤ 9223372036854775807 then (some (((x3 ++ (⟨#[32, 69, 76, 83, 69, 32]⟩ : ByteArray)) ++ ai) ++ (⟨#[32, 69, 78, 68]⟩ : ByteArray))) else (none)) else (none))) else (none))
def qE.f (k : Nat) (aa : Int) (ab : Int) (ac : Int) (ae : ByteArray) (af : List (S130)) : Option (ByteArray) := qE.l0 k (⟨#[67, 65, 83, 69]⟩ : ByteArray) 0 aa ab ac ae af
def qE.T5 : Bool × List (List Nat × List Nat) := (true, [([], []), ([0], [0]), ([], []), ([], []), ([2, 3], [2, 3]), ([1, 4], [1, 4]), ([5], [5]), ([], []), ([], []), ([8], [8]), ([7, 9, 4], [7, 9]), ([6, 10], [6, 10]), ([11, 10, 0, 1, 2, 3, 4, 5, 6, 7, 8, 9, 10, 11], [0, 11])])
def qE.B5 : List Nat := [0, 1, 0, 0, 12, 31, 63, 0, 0, 256, 924, 2047, 4095]
theorem qE.tab5 : rtab .any (opsOf Tryz.f116 5) = qE.T5 := by kernel_rfl
theorem qE.bits5 : vg qE.T5.2 qE.B5 = true := by kernel_rfl
set_option maxHeartbeats 8000000 in
set_option maxRecDepth 100000 in
theorem qE.calls (k : Nat) (af : Int) (ag : Int) (ah : Int) (ai : ByteArray) (al : Option Addr) (am : Nat) (ac : List (S130)) (r : ByteArray) (w : World) (az : Kd.C k130 w al ac.length ac) (a0 : ac.length ≤ am) (h : qE.f k af ag ah ai ac = some r) :
 Calls Tryz.prog 116 #[.agg #[.int .i64 af, .int .i64 ag, .int .i64 ah, .string ai, .slice al ac.length am]] w fun e w' => e = .returned (.string r) ∧ Below w.heap.size w w' := by
 have cf := Tryz.underlying130;have au := Aside0.mk az;have av := Aside0.mk a0;clear az a0;have HB := Aside0.mk (Below.refl w.heap.size w);have H : (qE.l0 k (⟨#[67, 65, 83, 69]⟩ : ByteArray) 0 af ag ah ai ac) = some r := h;clear h;have H' := Aside0.mk H;clear H
 go_enter Tryz.func116, Tryz.ntmps116
 go_wp2_with (first | ((with_reducible refine qU (N := 1) rfl ?_); refine qQ ?hg (N := 1) ?hd (cs := #[.int .i64 af, .int .i64 ag, .int .i64 ah, .string ai, .slice al ac.length am]) (t := 130) ?hr ?_; (case hd => rfl); (case hg => rfl); (case hr => first | (go_simp; done) | (go_simp; rfl)); intro ae hg w2 hbox hb; have aa := Aside0.mk (hbox); have cg := Aside0.mk ((by rw [hg]; exact (qw (by repeat (first | (with_reducible first | exact HB.out | apply q8 | apply q9 | apply qb) | exact HB.out))) : w.heap.size ≤ ae)); have ap := Aside0.mk ((by rw [hg]; exact (qw (by repeat (first | (with_reducible first | exact HB.out | apply q8 | apply q9 | apply qb) | exact HB.out))) : w.heap.size ≤ ae)); replace HB := Aside0.mk (qr (by repeat (first | (with_reducible first | exact HB.out | apply q8 | apply q9 | apply qb) | exact HB.out)) hb); clear hb hbox hg))
 go_loopg [3, 4] k (fun kq v3 v4 w' => ∃ (ab : ByteArray) (ak : Int), v3 = .string ab ∧ v4 = .int .i64 ak ∧ Aside0 (qE.l0 kq ab ak af ag ah ai ac = some r) ∧ Aside0 (kq ≤ k) ∧ Aside0 (w'.heap[ae]? = some (.cells #[.int .i64 af, .int .i64 ag, .int .i64 ah, .string ai, (.slice al ac.length am)] 130 (0, 0))) ∧ Aside0 (Below w.heap.size w w'))
 case atStart => exact ⟨((⟨#[67, 65, 83, 69]⟩ : ByteArray)), (0), (by first | rfl | (simp; done) | (simp [*]; done)), (by first | rfl | (simp; done) | (simp [*]; done)), H', ⟨Nat.le_refl _⟩, ⟨by (with_reducible repeat (first | refine qf ?_ _ | refine qh ?_ | refine qe ?_ _)); exact aa.out⟩, ⟨by repeat (first | (with_reducible first | exact HB.out | apply q8 | apply q9 | apply qb | refine qg ?_ ap.out) | exact HB.out)⟩⟩
 case round =>
  clear H'
  (try clear c1); (try clear p2)
  obtain ⟨ab, ak, rfl, rfl, HA, bf, aa, HB⟩ := hrel
  cases gk with
  | zero => exact absurd HA.out (by simp [qE.l0])
  | succ k1 =>
   have H := HA.out;clear HA;simp only [qE.l0] at H
   by_cases c3 : (wrap64 (ak + 1)) < (ac.length : Int)
   · rw [if_pos c3] at H
     have bj : decide ((wrap64 (ak + 1)) < (ac.length : Int)) = true := decide_eq_true c3;clear c3
     by_cases c4 : ab.size + 6 ≤ 9223372036854775807
     · rw [if_pos c4] at H
       have cr := eq_true c4;have ct : decide (ab.size + 6 ≤ 9223372036854775807) = true := decide_eq_true c4
       try have cu : (9223372036854775807 < ab.size + 6) = False := eq_false (Nat.not_lt.2 c4)
       replace H := Option.bind_eq_some_iff.mp H;obtain ⟨aj, bg, H⟩ := H;replace H : (if (ab ++ (⟨#[32, 87, 72, 69, 78, 32]⟩ : ByteArray)).size + aj.size ≤ 9223372036854775807 then (if ((ab ++ (⟨#[32, 87, 72, 69, 78, 32]⟩ : ByteArray)) ++ aj).size + 6 ≤ 9223372036854775807 then ((qp.f k1 af ag ah ai ac (wrap64 (ak + 1))).bind fun an => (if (((ab ++ (⟨#[32, 87, 72, 69, 78, 32]⟩ : ByteArray)) ++ aj) ++ (⟨#[32, 84, 72, 69, 78, 32]⟩ : ByteArray)).size + an.size ≤ 9223372036854775807 then (qE.l0 k1 ((((ab ++ (⟨#[32, 87, 72, 69, 78, 32]⟩ : ByteArray)) ++ aj) ++ (⟨#[32, 84, 72, 69, 78, 32]⟩ : ByteArray)) ++ an) (wrap64 (ak + 2)) af ag ah ai ac) else (none))) else (none)) else (none)) = some r := H;have A5 := Aside0.mk bg;clear bg
       by_cases c6 : (ab ++ (⟨#[32, 87, 72, 69, 78, 32]⟩ : ByteArray)).size + aj.size ≤ 9223372036854775807
       · rw [if_pos c6] at H
         have cw := eq_true c6;have cx : decide ((ab ++ (⟨#[32, 87, 72, 69, 78, 32]⟩ : ByteArray)).size + aj.size ≤ 9223372036854775807) = true := decide_eq_true c6
         try have a4 : (9223372036854775807 < (ab ++ (⟨#[32, 87, 72, 69, 78, 32]⟩ : ByteArray)).size + aj.size) = False := eq_false (Nat.not_lt.2 c6)
         try (have bk := a4; simp only [ByteArray.size_append, ByteArray.size_extract] at bk)
         try (have bl := a4; simp only [ByteArray.size_append, ByteArray.size_extract, bsz, List.size_toArray, List.length_cons, List.length_nil, Nat.reduceAdd] at bl)
         by_cases c7 : ((ab ++ (⟨#[32, 87, 72, 69, 78, 32]⟩ : ByteArray)) ++ aj).size + 6 ≤ 9223372036854775807
         · rw [if_pos c7] at H
           have cy := eq_true c7;have cz : decide (((ab ++ (⟨#[32, 87, 72, 69, 78, 32]⟩ : ByteArray)) ++ aj).size + 6 ≤ 9223372036854775807) = true := decide_eq_true c7
           try have a6 : (9223372036854775807 < ((ab ++ (⟨#[32, 87, 72, 69, 78, 32]⟩ : ByteArray)) ++ aj).size + 6) = False := eq_false (Nat.not_lt.2 c7)
           try (have bm := a6; simp only [ByteArray.size_append, ByteArray.size_extract] at bm)
           try (have bn := a6; simp only [ByteArray.size_append, ByteArray.size_extract, bsz, List.size_toArray, List.length_cons, List.length_nil, Nat.reduceAdd] at bn)
           replace H := Option.bind_eq_some_iff.mp H;obtain ⟨an, bh, H⟩ := H;replace H : (if (((ab ++ (⟨#[32, 87, 72, 69, 78, 32]⟩ : ByteArray)) ++ aj) ++ (⟨#[32, 84, 72, 69, 78, 32]⟩ : ByteArray)).size + an.size ≤ 9223372036854775807 then (qE.l0 k1 ((((ab ++ (⟨#[32, 87, 72, 69, 78, 32]⟩ : ByteArray)) ++ aj) ++ (⟨#[32, 84, 72, 69, 78, 32]⟩ : ByteArray)) ++ an) (wrap64 (ak + 2)) af ag ah ai ac) else (none)) = some r := H;have A8 := Aside0.mk bh;clear bh
           by_cases c9 : (((ab ++ (⟨#[32, 87, 72, 69, 78, 32]⟩ : ByteArray)) ++ aj) ++ (⟨#[32, 84, 72, 69, 78, 32]⟩ : ByteArray)).size + an.size ≤ 9223372036854775807
           · rw [if_pos c9] at H
             have c8 := eq_true c9;have da : decide ((((ab ++ (⟨#[32, 87, 72, 69, 78, 32]⟩ : ByteArray)) ++ aj) ++ (⟨#[32, 84, 72, 69, 78, 32]⟩ : ByteArray)).size + an.size ≤ 9223372036854775807) = true := decide_eq_true c9
             try have a8 : (9223372036854775807 < (((ab ++ (⟨#[32, 87, 72, 69, 78, 32]⟩ : ByteArray)) ++ aj) ++ (⟨#[32, 84, 72, 69, 78, 32]⟩ : ByteArray)).size + an.size) = False := eq_false (Nat.not_lt.2 c9)
             try (have bo := a8; simp only [ByteArray.size_append, ByteArray.size_extract] at bo)
             try (have bp := a8; simp only [ByteArray.size_append, ByteArray.size_extract, bsz, List.size_toArray, List.length_cons, List.length_nil, Nat.reduceAdd] at bp)
             have H' := Aside0.mk H;clear H;have bq : wr.cell? ⟨ae, 0, none⟩ = some (.int .i64 af) := (qa aa.out 0).trans rfl;have br : wr.cell? ⟨ae, 1, none⟩ = some (.int .i64 ag) := (qa aa.out 1).trans rfl;have bs : wr.cell? ⟨ae, 2, none⟩ = some (.int .i64 ah) := (qa aa.out 2).trans rfl;have bu : wr.cell? ⟨ae, 3, none⟩ = some (.string ai) := (qa aa.out 3).trans rfl;have bv : wr.cell? ⟨ae, 4, none⟩ = some (.slice al ac.length am) := (qa aa.out 4).trans rfl;have bw := qc aa.out 0;have bz := qc aa.out 1;have b0 := qc aa.out 2;have b1 := qc aa.out 3;have b2 := qc aa.out 4
             try go_wp2
             replace aa := Aside0.mk (qh aa.out);replace HB := Aside0.mk (qb HB.out)
             refine start_ (n := 13) (S := fun w' => w'.cell? ⟨ae, 0, none⟩ = some (.int .i64 af) ∧ w'.cell? ⟨ae, 1, none⟩ = some (.int .i64 ag) ∧ w'.cell? ⟨ae, 2, none⟩ = some (.int .i64 ah) ∧ w'.cell? ⟨ae, 3, none⟩ = some (.string ai) ∧ w'.cell? ⟨ae, 4, none⟩ = some (.slice al ac.length am)) (ds := []) #[false, false, false, false, false, false, false, false, false, false, false, false, false] (by kernel_rfl) rfl rfl ⟨(qa aa.out 0).trans rfl, (qa aa.out 1).trans rfl, (qa aa.out 2).trans rfl, (qa aa.out 3).trans rfl, (qa aa.out 4).trans rfl⟩ (fun hHeld => ?_); refine vm qE.tab5 qE.bits5 (fun HT_ HW_ => ?_)
             generalize wr.drew = dh at aa HB hHeld ⊢;refine zf (i := 0) (N := some 13) (v := ?_) (a' := ?_) #[true, false, false, false, false, false, false, false, false, false, false, false, false] rfl rfl (zd HT_.out (by kernel_rfl)) (fun _ _ _ h => h) (Or.inl ⟨by rfl, ?_⟩) ?_ ?_;rotate_left
             · intro w'
               go_simp
               with_reducible rfl
             rotate_left
             · simp only [Act.put, List.setIfInBounds_toArray, List.set_cons_zero, List.set_cons_succ, qH, qK]
               rfl
             refine zf (i := 1) (N := some 14) (v := ?_) (a' := ?_) #[true, true, false, false, false, false, false, false, false, false, false, false, false] rfl rfl (zd HT_.out (by kernel_rfl)) (fun _ _ _ h => h) (Or.inl ⟨by rfl, ?_⟩) ?_ ?_;rotate_left
             · intro w'
               go_simp
               with_reducible rfl
             rotate_left
             · simp only [Act.put, List.setIfInBounds_toArray, List.set_cons_zero, List.set_cons_succ, qH, qK]
               rfl
             refine zf (i := 3) (N := some 16) (v := ?_) (a' := ?_) #[true, true, false, true, false, false, false, false, false, false, false, false, false] rfl rfl (zd HT_.out (by kernel_rfl)) (fun _ _ _ h => h) (Or.inl ⟨by rfl, ?_⟩) ?_ ?_;rotate_left
             · intro w'
               go_simp
               with_reducible rfl
             rotate_left
             · simp only [Act.put, List.setIfInBounds_toArray, List.set_cons_zero, List.set_cons_succ, qH, qK]
               rfl
             refine zf (i := 8) (N := some 21) (v := ?_) (a' := ?_) #[true, true, false, true, false, false, false, false, true, false, false, false, false] rfl rfl (zd HT_.out (by kernel_rfl)) (fun _ _ _ h => h) (Or.inl ⟨by rfl, ?_⟩) ?_ ?_;rotate_left
             · intro w'
               go_simp
               with_reducible rfl
             rotate_left
             · simp only [Act.put, List.setIfInBounds_toArray, List.set_cons_zero, List.set_cons_succ, qH, qK]
               rfl
             refine zf (i := 9) (N := some 22) (v := ?_) (a' := ?_) #[true, true, false, true, false, false, false, false, true, true, false, false, false] rfl rfl (zd HT_.out (by kernel_rfl)) (fun _ _ _ h => h) (Or.inl ⟨by rfl, ?_⟩) ?_ ?_;rotate_left
             · intro w'
               go_simp
               with_reducible rfl
             rotate_left
             · simp only [Act.put, List.setIfInBounds_toArray, List.set_cons_zero, List.set_cons_succ, qH, qK]
               rfl
             refine xW (i := 2) (N := some 15) (v := ?_) (a' := ?_) #[true, true, true, true, false, false, false, false, true, true, false, false, false] rfl rfl (zP HT_.out HW_.out (by kernel_rfl)) (fun _ _ _ h => h) (Or.inl ⟨by rfl, ?_⟩) hHeld ?_ ?_;rotate_left
             · rintro w' ⟨s0, s1, s2, s3, s4⟩
               go_simp
               with_reducible rfl
             rotate_left
             · simp only [Act.put, List.setIfInBounds_toArray, List.set_cons_zero, List.set_cons_succ, qH, qK]
               rfl
             refine xW (i := 7) (N := some 20) (v := ?_) (a' := ?_) #[true, true, true, true, false, false, false, true, true, true, false, false, false] rfl rfl (zP HT_.out HW_.out (by kernel_rfl)) (fun _ _ _ h => h) (Or.inl ⟨by rfl, ?_⟩) hHeld ?_ ?_;rotate_left
             · rintro w' ⟨s0, s1, s2, s3, s4⟩
               go_simp
               with_reducible rfl
             rotate_left
             · simp only [Act.put, List.setIfInBounds_toArray, List.set_cons_zero, List.set_cons_succ, qH, qK]
               rfl
             refine one_ (i := 4) (N := some 17) #[true, true, true, true, true, false, false, true, true, true, false, false, false] rfl rfl (xC HT_.out (by kernel_rfl)) (by decide) (fun K hK => ?_);refine vF Tryz.func114 (by kernel_rfl) rfl #[.agg #[.int .i64 af, .int .i64 ag, .int .i64 ah, .string ai, .slice al ac.length am], .int .i64 ak] (by rfl) rfl rfl (by (try simp only [List.map_toArray, List.map_cons, List.map_nil]); first | done | rfl | (simp only [List.length_drop, List.length_take]; rfl)) ?_
             with_reducible refine (qp.calls k1 af ag ah ai _ _ ac ak aj _ ?side1 ?side2 A5.out).mono ?_
             (case side1 => repeat (first | exact (Kd.C_below au.out HB.out) | (with_reducible refine Kd.C_alloc ?_ _) | (with_reducible refine Kd.C_drewN ?_ _) | (with_reducible refine Kd.C_drew ?_)))
             (case side2 => exact av.out)
             rintro e di ⟨rfl, hb⟩
             refine ⟨_, rfl, ?_⟩;replace aa := Aside0.mk (qF (g := ae) (o := .cells #[.int .i64 af, .int .i64 ag, .int .i64 ah, .string ai, .slice al ac.length am] 130 (0, 0)) (by (with_reducible repeat (first | refine qf ?_ _ | refine qh ?_ | refine qe ?_ _)); exact aa.out) hb);replace HB := Aside0.mk (qr (by repeat (first | (with_reducible first | exact HB.out | apply q8 | apply q9 | apply qb | refine qg ?_ ap.out) | exact HB.out)) hb)
             (try clear hb)
             (try clear bi)
             (try clear hk)
             (try clear hi)
             refine hK.out _ _ ⟨(qa aa.out 0).trans rfl, (qa aa.out 1).trans rfl, (qa aa.out 2).trans rfl, (qa aa.out 3).trans rfl, (qa aa.out 4).trans rfl⟩ (fun hHeld => ?_);clear hK K;refine xA (a' := ?_) ?_ ?_;rotate_left
             · show Act.put _ (some 17) _ = _
               simp only [Act.put, List.setIfInBounds_toArray, List.set_cons_zero, List.set_cons_succ, qH, qK]
               rfl
             refine zf (i := 5) (N := some 18) (v := ?_) (a' := ?_) #[true, true, true, true, true, true, false, true, true, true, false, false, false] rfl rfl (zd HT_.out (by kernel_rfl)) (fun _ _ _ h => h) (Or.inl ⟨by rfl, ?_⟩) ?_ ?_;rotate_left
             · intro w'
               go_simp
               with_reducible rfl
             rotate_left
             · simp only [Act.put, List.setIfInBounds_toArray, List.set_cons_zero, List.set_cons_succ, qH, qK]
               rfl
             refine zf (i := 6) (N := some 19) (v := ?_) (a' := ?_) #[true, true, true, true, true, true, true, true, true, true, false, false, false] rfl rfl (zd HT_.out (by kernel_rfl)) (fun _ _ _ h => h) (Or.inl ⟨by rfl, ?_⟩) ?_ ?_;rotate_left
             · intro w'
               go_simp
               with_reducible rfl
             rotate_left
             · simp only [Act.put, List.setIfInBounds_toArray, List.set_cons_zero, List.set_cons_succ, qH, qK]
               rfl
             refine one_ (i := 10) (N := some 23) #[true, true, true, true, true, true, true, true, true, true, true, false, false] rfl rfl (xC HT_.out (by kernel_rfl)) (by decide) (fun K hK => ?_);refine vF Tryz.func114 (by kernel_rfl) rfl #[.agg #[.int .i64 af, .int .i64 ag, .int .i64 ah, .string ai, .slice al ac.length am], .int .i64 (wrap64 (ak + 1))] (by rfl) rfl rfl (by (try simp only [List.map_toArray, List.map_cons, List.map_nil]); first | done | rfl | (simp only [List.length_drop, List.length_take]; rfl)) ?_
             with_reducible refine (qp.calls k1 af ag ah ai _ _ ac (wrap64 (ak + 1)) an _ ?side1 ?side2 A8.out).mono ?_
             (case side1 => repeat (first | exact (Kd.C_below au.out HB.out) | (with_reducible refine Kd.C_alloc ?_ _) | (with_reducible refine Kd.C_drewN ?_ _) | (with_reducible refine Kd.C_drew ?_)))
             (case side2 => exact av.out)
             rintro e dj ⟨rfl, hb⟩
             refine ⟨_, rfl, ?_⟩;replace aa := Aside0.mk (qF (g := ae) (o := .cells #[.int .i64 af, .int .i64 ag, .int .i64 ah, .string ai, .slice al ac.length am] 130 (0, 0)) (by (with_reducible repeat (first | refine qf ?_ _ | refine qh ?_ | refine qe ?_ _)); exact aa.out) hb);replace HB := Aside0.mk (qr (by repeat (first | (with_reducible first | exact HB.out | apply q8 | apply q9 | apply qb | refine qg ?_ ap.out) | exact HB.out)) hb)
             (try clear hb)
             (try clear bi)
             (try clear hk)
             (try clear hi)
             refine hK.out _ _ ⟨(qa aa.out 0).trans rfl, (qa aa.out 1).trans rfl, (qa aa.out 2).trans rfl, (qa aa.out 3).trans rfl, (qa aa.out 4).trans rfl⟩ (fun hHeld => ?_);clear hK K;refine xA (a' := ?_) ?_ ?_;rotate_left
             · show Act.put _ (some 23) _ = _
               simp only [Act.put, List.setIfInBounds_toArray, List.set_cons_zero, List.set_cons_succ, qH, qK]
               rfl
             refine zf (i := 11) (N := some 24) (v := ?_) (a' := ?_) #[true, true, true, true, true, true, true, true, true, true, true, true, false] rfl rfl (zd HT_.out (by kernel_rfl)) (fun _ _ _ h => h) (Or.inl ⟨by rfl, ?_⟩) ?_ ?_;rotate_left
             · intro w'
               go_simp
               with_reducible rfl
             rotate_left
             · simp only [Act.put, List.setIfInBounds_toArray, List.set_cons_zero, List.set_cons_succ, qH, qK]
               rfl
             refine zf (i := 12) (N := some 3) (v := ?_) (a' := ?_) #[true, true, true, true, true, true, true, true, true, true, true, true, true] rfl rfl (zd HT_.out (by kernel_rfl)) (fun _ _ _ h => h) (Or.inl ⟨by rfl, ?_⟩) ?_ ?_;rotate_left
             · intro w'
               go_simp
               with_reducible rfl
             rotate_left
             · simp only [Act.put, List.setIfInBounds_toArray, List.set_cons_zero, List.set_cons_succ, qH, qK]
               rfl
             refine done_ (done_of HT_.out (by kernel_rfl)) ?_
             try go_wp2
             go_roundg k1
             case measure => have := bf.out; omega
             case rel => exact ⟨((((ab ++ (⟨#[32, 87, 72, 69, 78, 32]⟩ : ByteArray)) ++ aj) ++ (⟨#[32, 84, 72, 69, 78, 32]⟩ : ByteArray)) ++ an), (wrap64 (ak + 2)), (by first | rfl | (simp; done) | (simp [*]; done)), (by first | rfl | (simp; done) | (simp [*]; done)), H', ⟨by have := bf.out; omega⟩, ⟨by (with_reducible repeat (first | refine qf ?_ _ | refine qh ?_ | refine qe ?_ _)); exact aa.out⟩, ⟨by repeat (first | (with_reducible first | exact HB.out | apply q8 | apply q9 | apply qb | refine qg ?_ ap.out) | exact HB.out)⟩⟩
           · rw [if_neg c9] at H
             exact absurd H (by simp)
         · rw [if_neg c7] at H
           exact absurd H (by simp)
       · rw [if_neg c6] at H
         exact absurd H (by simp)
     · rw [if_neg c4] at H
       exact absurd H (by simp)
   · rw [if_neg c3] at H
     have bj : decide ((wrap64 (ak + 1)) < (ac.length : Int)) = false := decide_eq_false c3;clear c3
     by_cases aw : ab.size + 6 ≤ 9223372036854775807
     · rw [if_pos aw] at H
       have ch := eq_true aw;have ci : decide (ab.size + 6 ≤ 9223372036854775807) = true := decide_eq_true aw
       try have cj : (9223372036854775807 < ab.size + 6) = False := eq_false (Nat.not_lt.2 aw)
       replace H := Option.bind_eq_some_iff.mp H;obtain ⟨ao, a9, H⟩ := H;replace H : (if (ab ++ (⟨#[32, 69, 76, 83, 69, 32]⟩ : ByteArray)).size + ao.size ≤ 9223372036854775807 then (if ((ab ++ (⟨#[32, 69, 76, 83, 69, 32]⟩ : ByteArray)) ++ ao).size + 4 ≤ 9223372036854775807 then (some (((ab ++ (⟨#[32, 69, 76, 83, 69, 32]⟩ : ByteArray)) ++ ao) ++ (⟨#[32, 69, 78, 68]⟩ : ByteArray))) else (none)) else (none)) = some r := H;have ce := Aside0.mk a9;clear a9
       by_cases ax : (ab ++ (⟨#[32, 69, 76, 83, 69, 32]⟩ : ByteArray)).size + ao.size ≤ 9223372036854775807
       · rw [if_pos ax] at H
         have ck := eq_true ax;have cm : decide ((ab ++ (⟨#[32, 69, 76, 83, 69, 32]⟩ : ByteArray)).size + ao.size ≤ 9223372036854775807) = true := decide_eq_true ax
         try have a1 : (9223372036854775807 < (ab ++ (⟨#[32, 69, 76, 83, 69, 32]⟩ : ByteArray)).size + ao.size) = False := eq_false (Nat.not_lt.2 ax)
         try (have ba := a1; simp only [ByteArray.size_append, ByteArray.size_extract] at ba)
         try (have bb := a1; simp only [ByteArray.size_append, ByteArray.size_extract, bsz, List.size_toArray, List.length_cons, List.length_nil, Nat.reduceAdd] at bb)
         by_cases ay : ((ab ++ (⟨#[32, 69, 76, 83, 69, 32]⟩ : ByteArray)) ++ ao).size + 4 ≤ 9223372036854775807
         · rw [if_pos ay] at H
           have cn := eq_true ay;have co : decide (((ab ++ (⟨#[32, 69, 76, 83, 69, 32]⟩ : ByteArray)) ++ ao).size + 4 ≤ 9223372036854775807) = true := decide_eq_true ay
           try have a2 : (9223372036854775807 < ((ab ++ (⟨#[32, 69, 76, 83, 69, 32]⟩ : ByteArray)) ++ ao).size + 4) = False := eq_false (Nat.not_lt.2 ay)
           try (have bc := a2; simp only [ByteArray.size_append, ByteArray.size_extract] at bc)
           try (have bd := a2; simp only [ByteArray.size_append, ByteArray.size_extract, bsz, List.size_toArray, List.length_cons, List.length_nil, Nat.reduceAdd] at bd)
           obtain rfl := Option.some.inj H;have b3 : wr.cell? ⟨ae, 0, none⟩ = some (.int .i64 af) := (qa aa.out 0).trans rfl;have b4 : wr.cell? ⟨ae, 1, none⟩ = some (.int .i64 ag) := (qa aa.out 1).trans rfl;have b5 : wr.cell? ⟨ae, 2, none⟩ = some (.int .i64 ah) := (qa aa.out 2).trans rfl;have b6 : wr.cell? ⟨ae, 3, none⟩ = some (.string ai) := (qa aa.out 3).trans rfl;have b7 : wr.cell? ⟨ae, 4, none⟩ = some (.slice al ac.length am) := (qa aa.out 4).trans rfl;have b8 := qc aa.out 0;have b9 := qc aa.out 1;have cb := qc aa.out 2;have cc := qc aa.out 3;have cd := qc aa.out 4
           go_wp2_with (first | ((with_reducible refine qI (f := 114) rfl ?_); refine zh (some 32) rfl rfl Tryz.func114 (by kernel_rfl) rfl #[.agg #[.int .i64 af, .int .i64 ag, .int .i64 ah, .string ai, .slice al ac.length am], .int .i64 (wrap64 ((ac.length : Int) - 1))] rfl (by (try simp only [List.map_toArray, List.map_cons, List.map_nil]); first | done | rfl | (simp only [List.length_drop, List.length_take]; rfl)) ?_; (with_reducible refine (qp.calls k1 af ag ah ai _ _ ac (wrap64 ((ac.length : Int) - 1)) ao _ ?side1 ?side2 ce.out).mono ?_); (case side1 => repeat (first | exact (Kd.C_below au.out HB.out) | (with_reducible refine Kd.C_alloc ?_ _) | (with_reducible refine Kd.C_drewN ?_ _) | (with_reducible refine Kd.C_drew ?_))); (case side2 => exact av.out); rintro e dk ⟨rfl, hb⟩; refine ⟨_, rfl, ?_⟩; replace aa := Aside0.mk (qF (g := ae) (o := .cells #[.int .i64 af, .int .i64 ag, .int .i64 ah, .string ai, .slice al ac.length am] 130 (0, 0)) (by (with_reducible repeat (first | refine qf ?_ _ | refine qh ?_ | refine qe ?_ _)); exact aa.out) hb); replace HB := Aside0.mk (qr (by repeat (first | (with_reducible first | exact HB.out | apply q8 | apply q9 | apply qb | refine qg ?_ ap.out) | exact HB.out)) hb); (try clear hb); (try clear bi); (try clear hk); (try clear hi)))
           go_ret
           exact ⟨by first | rfl | (simp [qm, qn] <;> rfl) | (simp [*, qm, qn] <;> rfl), by repeat (first | (with_reducible first | exact HB.out | apply q8 | apply q9 | apply qb | refine qg ?_ ap.out) | exact HB.out)⟩
         · rw [if_neg ay] at H
           exact absurd H (by simp)
       · rw [if_neg ax] at H
         exact absurd H (by simp)
     · rw [if_neg aw] at H
       exact absurd H (by simp)
end
end Go.Proofs.YtfmgbgkcmmpcfaaGreatDoor.PTk

