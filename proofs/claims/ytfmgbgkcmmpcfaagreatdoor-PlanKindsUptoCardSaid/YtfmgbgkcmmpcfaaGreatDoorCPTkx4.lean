import Derived.Test.YtfmgbgkcmmpcfaaGreatDoorCPTkx0
import Derived.Test.YtfmgbgkcmmpcfaaGreatDoorCPTkx1
namespace Go.Proofs.YtfmgbgkcmmpcfaaGreatDoor.PTk
open Go.RowKit Go.Proofs.YtfmgbgkcmmpcfaaGreatDoorW.PrintWords Go.Proofs.YtfmgbgkcmmpcfaaGreatDoorW.PrintLast Go.Proofs.YtfmgbgkcmmpcfaaGreatDoorW.PrintMore
attribute [local go_sem] zp zC
set_option linter.unusedVariables false
set_option linter.unusedSimpArgs false
def tongue_holds.j0 : Nat → Bool → Int → Int → Int → ByteArray → Option (Bool)
 | 0, _, _, _, _, _ => none
 | k + 1, ag, aa, ae, af, ab => if ag = true then (some false) else (if aa = 2 then (some (decide ((ab.size : Int) ≤ 4096))) else (if aa = 6 then ((zw.f ab).bind fun ac => (some ac)) else (if aa = 29 then (some true) else (some (ab.toList == ([] : List UInt8))))))
def tongue_holds.f (k : Nat) (ab : Int) (ac : Int) (aa : Int) (ae : ByteArray) : Option (Bool) := if aa < 0 then (tongue_holds.j0 k true ab ac aa ae) else (if aa > 0 then (tongue_holds.j0 k (ab != 1) ab ac aa ae) else (tongue_holds.j0 k false ab ac aa ae))
set_option maxHeartbeats 8000000 in
set_option maxRecDepth 100000 in
theorem tongue_holds.calls (k : Nat) (ac : Int) (ag : Int) (ae : Int) (af : ByteArray) (r : Bool) (w : World) (h : tongue_holds.f k ac ag ae af = some r) :
 Calls Tryz.prog 169 #[.agg #[.int .i64 ac, .int .i64 ag, .int .i64 ae, .string af]] w fun e w' => e = .returned (.bool r) ∧ Below w.heap.size w w' := by
 have cz := Tryz.underlying86;have HB := Aside0.mk (Below.refl w.heap.size w);have H : (if ae < 0 then (tongue_holds.j0 k true ac ag ae af) else (if ae > 0 then (tongue_holds.j0 k (ac != 1) ac ag ae af) else (tongue_holds.j0 k false ac ag ae af))) = some r := h;clear h;have au := Aside0.mk H;clear H
 go_enter Tryz.func169, Tryz.ntmps169
 go_upto_region 1 with (first | ((with_reducible refine qU (N := 1) rfl ?_); refine qQ ?hg (N := 1) ?hd (cs := #[.int .i64 ac, .int .i64 ag, .int .i64 ae, .string af]) (t := 86) ?hr ?_; (case hd => rfl); (case hg => rfl); (case hr => first | (go_simp; done) | (go_simp; rfl)); intro ab hg w3 hbox hb; have aa := Aside0.mk (hbox); have cy := Aside0.mk ((by rw [hg]; exact (qw (by repeat (first | (with_reducible first | exact HB.out | apply q8 | apply q9 | apply qb) | exact HB.out))) : w.heap.size ≤ ab)); have ah := Aside0.mk ((by rw [hg]; exact (qw (by repeat (first | (with_reducible first | exact HB.out | apply q8 | apply q9 | apply qb) | exact HB.out))) : w.heap.size ≤ ab)); replace HB := Aside0.mk (qr (by repeat (first | (with_reducible first | exact HB.out | apply q8 | apply q9 | apply qb) | exact HB.out)) hb); clear hb hbox hg))
 (try simp only [Act.put, List.setIfInBounds_toArray, List.set_cons_zero, List.set_cons_succ])
 go_cut [15] (fun cw wc => ∃ (kq : Nat) (ak : Bool), cw = .bool ak ∧ Aside0 (tongue_holds.j0 kq ak ac ag ae af = some r) ∧ Aside0 (kq ≤ k) ∧ Aside0 (wc.heap[ab]? = some (.cells #[.int .i64 ac, .int .i64 ag, .int .i64 ae, .string af] 86 (0, 0))) ∧ Aside0 (Below w.heap.size w wc))
 case first =>
  have H := au.out;clear au
  by_cases c4 : ae < 0
  · rw [if_pos c4] at H
    have ai : decide (ae < 0) = true := decide_eq_true c4;clear c4
    (first | rw [ai] | (simp only [qH, qK]; rw [ai]) | skip)
    have H' := Aside0.mk H;clear H;have av : w3.cell? ⟨ab, 0, none⟩ = some (.int .i64 ac) := (qa aa.out 0).trans rfl;have aw : w3.cell? ⟨ab, 1, none⟩ = some (.int .i64 ag) := (qa aa.out 1).trans rfl;have ax : w3.cell? ⟨ab, 2, none⟩ = some (.int .i64 ae) := (qa aa.out 2).trans rfl;have ay : w3.cell? ⟨ab, 3, none⟩ = some (.string af) := (qa aa.out 3).trans rfl;have az := qc aa.out 0;have a0 := qc aa.out 1;have a1 := qc aa.out 2;have a2 := qc aa.out 3;go_wp2;go_meet
    case rel => exact ⟨_, (true), (by first | rfl | (simp; done) | (simp [*]; done)), H', ⟨by first | omega | exact Nat.le_refl _⟩, ⟨by (with_reducible repeat (first | refine qf ?_ _ | refine qh ?_ | refine qe ?_ _)); exact aa.out⟩, ⟨by repeat (first | (with_reducible first | exact HB.out | apply q8 | apply q9 | apply qb | refine qg ?_ ah.out) | exact HB.out)⟩⟩
  · rw [if_neg c4] at H
    have ai : decide (ae < 0) = false := decide_eq_false c4;clear c4
    (first | rw [ai] | (simp only [qH, qK]; rw [ai]) | skip)
    by_cases c6 : ae > 0
    · rw [if_pos c6] at H
      have a3 : decide (0 < ae) = true := decide_eq_true c6;clear c6;have H' := Aside0.mk H;clear H;have a4 : w3.cell? ⟨ab, 0, none⟩ = some (.int .i64 ac) := (qa aa.out 0).trans rfl;have a5 : w3.cell? ⟨ab, 1, none⟩ = some (.int .i64 ag) := (qa aa.out 1).trans rfl;have a6 : w3.cell? ⟨ab, 2, none⟩ = some (.int .i64 ae) := (qa aa.out 2).trans rfl;have a7 : w3.cell? ⟨ab, 3, none⟩ = some (.string af) := (qa aa.out 3).trans rfl;have a8 := qc aa.out 0;have a9 := qc aa.out 1;have ba := qc aa.out 2;have bb := qc aa.out 3;go_wp2;go_meet
      case rel => exact ⟨_, ((ac != 1)), (by first | rfl | (simp; done) | (simp [*]; done)), H', ⟨by first | omega | exact Nat.le_refl _⟩, ⟨by (with_reducible repeat (first | refine qf ?_ _ | refine qh ?_ | refine qe ?_ _)); exact aa.out⟩, ⟨by repeat (first | (with_reducible first | exact HB.out | apply q8 | apply q9 | apply qb | refine qg ?_ ah.out) | exact HB.out)⟩⟩
    · rw [if_neg c6] at H
      have a3 : decide (0 < ae) = false := decide_eq_false c6;clear c6;have H' := Aside0.mk H;clear H;have bc : w3.cell? ⟨ab, 0, none⟩ = some (.int .i64 ac) := (qa aa.out 0).trans rfl;have bd : w3.cell? ⟨ab, 1, none⟩ = some (.int .i64 ag) := (qa aa.out 1).trans rfl;have bf : w3.cell? ⟨ab, 2, none⟩ = some (.int .i64 ae) := (qa aa.out 2).trans rfl;have bg : w3.cell? ⟨ab, 3, none⟩ = some (.string af) := (qa aa.out 3).trans rfl;have bh := qc aa.out 0;have bi := qc aa.out 1;have bj := qc aa.out 2;have bk := qc aa.out 3;go_wp2;go_meet
      case rel => exact ⟨_, (false), (by first | rfl | (simp; done) | (simp [*]; done)), H', ⟨by first | omega | exact Nat.le_refl _⟩, ⟨by (with_reducible repeat (first | refine qf ?_ _ | refine qh ?_ | refine qe ?_ _)); exact aa.out⟩, ⟨by repeat (first | (with_reducible first | exact HB.out | apply q8 | apply q9 | apply qb | refine qg ?_ ah.out) | exact HB.out)⟩⟩
 case rest =>
  clear au
  (try clear c1); (try clear p2); (try clear c4); (try clear ai); (try clear c6); (try clear a3); (try clear av); (try clear aw); (try clear ax); (try clear ay); (try clear a4); (try clear a5); (try clear a6); (try clear a7); (try clear bc); (try clear bd); (try clear bf); (try clear bg); (try clear az); (try clear a0); (try clear a1); (try clear a2); (try clear a8); (try clear a9); (try clear ba); (try clear bb); (try clear bh); (try clear bi); (try clear bj); (try clear bk)
  obtain ⟨kq, ak, rfl, HA, c5, aa, HB⟩ := hcut
  cases kq with
  | zero => exact absurd HA.out (by simp [tongue_holds.j0])
  | succ c7 =>
   have H := HA.out;clear HA;simp only [tongue_holds.j0] at H
   by_cases c9 : ak = true
   · subst c9
     have H1 : (some false) = some r := by rw [if_pos rfl] at H; exact H
     clear H;have H := H1;clear H1;obtain rfl := Option.some.inj H;go_wp2
     go_ret
     exact ⟨by first | rfl | (simp [qm, qn] <;> rfl) | (simp [*, qm, qn] <;> rfl), by repeat (first | (with_reducible first | exact HB.out | apply q8 | apply q9 | apply qb | refine qg ?_ ah.out) | exact HB.out)⟩
   · replace c9 := Bool.eq_false_iff.mpr c9
     subst c9
     have H1 : (if ac = 2 then (some (decide ((af.size : Int) ≤ 4096))) else (if ac = 6 then ((zw.f af).bind fun ao => (some ao)) else (if ac = 29 then (some true) else (some (af.toList == ([] : List UInt8)))))) = some r := by rw [if_neg (show ¬ (false = true) by decide)] at H; exact H
     clear H;have H := H1;clear H1
     by_cases al : ac = 2
     · rw [if_pos al] at H
       have bo : (ac == 2) = true := beq_iff_eq.mpr al;have bp : (ac != 2) = false := bne_eq_false_iff_eq.mpr al;clear al;obtain rfl := Option.some.inj H;have bv : wc.cell? ⟨ab, 0, none⟩ = some (.int .i64 ac) := (qa aa.out 0).trans rfl;have bw : wc.cell? ⟨ab, 1, none⟩ = some (.int .i64 ag) := (qa aa.out 1).trans rfl;have bz : wc.cell? ⟨ab, 2, none⟩ = some (.int .i64 ae) := (qa aa.out 2).trans rfl;have b0 : wc.cell? ⟨ab, 3, none⟩ = some (.string af) := (qa aa.out 3).trans rfl;have b1 := qc aa.out 0;have b2 := qc aa.out 1;have b3 := qc aa.out 2;have b4 := qc aa.out 3;go_wp2
       go_ret
       exact ⟨by first | rfl | (simp [qm, qn] <;> rfl) | (simp [*, qm, qn] <;> rfl), by repeat (first | (with_reducible first | exact HB.out | apply q8 | apply q9 | apply qb | refine qg ?_ ah.out) | exact HB.out)⟩
     · rw [if_neg al] at H
       have bo : (ac == 2) = false := beq_eq_false_iff_ne.mpr al;have bp : (ac != 2) = true := bne_iff_ne.mpr al
       by_cases am : ac = 6
       · rw [if_pos am] at H
         have bq : (ac == 6) = true := beq_iff_eq.mpr am;have br : (ac != 6) = false := bne_eq_false_iff_eq.mpr am;clear am;replace H := Option.bind_eq_some_iff.mp H;obtain ⟨ao, bm, H⟩ := H;replace H : (some ao) = some r := H;have cx := Aside0.mk bm;clear bm;obtain rfl := Option.some.inj H;have b5 : wc.cell? ⟨ab, 0, none⟩ = some (.int .i64 ac) := (qa aa.out 0).trans rfl;have b6 : wc.cell? ⟨ab, 1, none⟩ = some (.int .i64 ag) := (qa aa.out 1).trans rfl;have b7 : wc.cell? ⟨ab, 2, none⟩ = some (.int .i64 ae) := (qa aa.out 2).trans rfl;have b8 : wc.cell? ⟨ab, 3, none⟩ = some (.string af) := (qa aa.out 3).trans rfl;have b9 := qc aa.out 0;have cb := qc aa.out 1;have cc := qc aa.out 2;have cd := qc aa.out 3
         go_wp2_with (first | ((with_reducible refine qI (f := 124) rfl ?_); refine zh (some 28) rfl rfl Tryz.func124 (by kernel_rfl) rfl #[.string af] rfl (by (try simp only [List.map_toArray, List.map_cons, List.map_nil]); first | done | rfl | (simp only [List.length_drop, List.length_take]; rfl)) ?_; (with_reducible refine (zw.calls af ao _ cx.out).mono ?_); rintro e w' ⟨rfl, ⟨nd, rfl⟩⟩; refine ⟨_, rfl, ?_⟩))
         go_ret
         exact ⟨by first | rfl | (simp [qm, qn] <;> rfl) | (simp [*, qm, qn] <;> rfl), by repeat (first | (with_reducible first | exact HB.out | apply q8 | apply q9 | apply qb | refine qg ?_ ah.out) | exact HB.out)⟩
       · rw [if_neg am] at H
         have bq : (ac == 6) = false := beq_eq_false_iff_ne.mpr am;have br : (ac != 6) = true := bne_iff_ne.mpr am
         by_cases an : ac = 29
         · rw [if_pos an] at H
           have bs : (ac == 29) = true := beq_iff_eq.mpr an;have bu : (ac != 29) = false := bne_eq_false_iff_eq.mpr an;clear an;obtain rfl := Option.some.inj H;have ce : wc.cell? ⟨ab, 0, none⟩ = some (.int .i64 ac) := (qa aa.out 0).trans rfl;have cf : wc.cell? ⟨ab, 1, none⟩ = some (.int .i64 ag) := (qa aa.out 1).trans rfl;have cg : wc.cell? ⟨ab, 2, none⟩ = some (.int .i64 ae) := (qa aa.out 2).trans rfl;have ch : wc.cell? ⟨ab, 3, none⟩ = some (.string af) := (qa aa.out 3).trans rfl;have ci := qc aa.out 0;have cj := qc aa.out 1;have ck := qc aa.out 2;have cm := qc aa.out 3;go_wp2
           go_ret
           exact ⟨by first | rfl | (simp [qm, qn] <;> rfl) | (simp [*, qm, qn] <;> rfl), by repeat (first | (with_reducible first | exact HB.out | apply q8 | apply q9 | apply qb | refine qg ?_ ah.out) | exact HB.out)⟩
         · rw [if_neg an] at H
           have bs : (ac == 29) = false := beq_eq_false_iff_ne.mpr an;have bu : (ac != 29) = true := bne_iff_ne.mpr an;obtain rfl := Option.some.inj H;have cn : wc.cell? ⟨ab, 0, none⟩ = some (.int .i64 ac) := (qa aa.out 0).trans rfl;have co : wc.cell? ⟨ab, 1, none⟩ = some (.int .i64 ag) := (qa aa.out 1).trans rfl;have cp : wc.cell? ⟨ab, 2, none⟩ = some (.int .i64 ae) := (qa aa.out 2).trans rfl;have cq : wc.cell? ⟨ab, 3, none⟩ = some (.string af) := (qa aa.out 3).trans rfl;have cr := qc aa.out 0;have ct := qc aa.out 1;have cu := qc aa.out 2;have cv := qc aa.out 3;go_wp2
           go_ret
           exact ⟨by first | rfl | (simp [qm, qn] <;> rfl) | (simp [*, qm, qn] <;> rfl), by repeat (first | (with_reducible first | exact HB.out | apply q8 | apply q9 | apply qb | refine qg ?_ ah.out) | exact HB.out)⟩
def qV.l0 : Nat → Int → List (S147) → Int → Int → Option (ByteArray)
 | 0, _, _, _, _ => none
 | k + 1, x1, x7, x8, x9 => if x9 < x8 then (if 0 ≤ x9 then (if x9 < (x7.length : Int) then (if ((xR x7 x9).f1) = x1 then (some ((xR x7 x9).f0)) else (qV.l0 k x1 x7 x8 (wrap64 (x9 + 1)))) else (none)) else (none)) else (some (⟨#[]⟩ : ByteArray))
def qV.f (k : Nat) (l0 : List (S147)) (a1 : Int) : Option (ByteArray) := qV.l0 k a1 l0 (l0.length : Int) 0
set_option maxHeartbeats 8000000 in
set_option maxRecDepth 100000 in
theorem qV.calls (k : Nat) (A0 : Option Addr) (c0 : Nat) (l0 : List (S147)) (a1 : Int) (r : ByteArray) (w : World) (ap : Kd.C k147 w A0 l0.length l0) (au : l0.length ≤ c0) (h : qV.f k l0 a1 = some r) :
 Calls Tryz.prog 85 #[.slice A0 l0.length c0, .int .i64 a1] w fun e w' => e = .returned (.string r) ∧ Below w.heap.size w w' := by
 have bc := Tryz.underlying147;have av := Aside0.mk ap;have bh := Aside0.mk au;clear ap au;have HB := Aside0.mk (Below.refl w.heap.size w);have H : (qV.l0 k a1 l0 (l0.length : Int) 0) = some r := h;clear h;have H' := Aside0.mk H;clear H
 go_enter Tryz.func85, Tryz.ntmps85
 go_wp2
 go_loopg [9] k (fun kq v9 w' => ∃ (aa : Int), v9 = .int .i64 aa ∧ Aside0 (qV.l0 kq a1 l0 (l0.length : Int) aa = some r) ∧ Aside0 (kq ≤ k) ∧ Aside0 (Below w.heap.size w w'))
 case atStart => exact ⟨(0), (by first | rfl | (simp; done) | (simp [*]; done)), H', ⟨Nat.le_refl _⟩, ⟨by repeat (first | (with_reducible first | exact HB.out | apply q8 | apply q9 | apply qb) | exact HB.out)⟩⟩
 case round =>
  clear H'
  (try clear p2)
  obtain ⟨aa, rfl, HA, aw, HB⟩ := hrel
  cases gk with
  | zero => exact absurd HA.out (by simp [qV.l0])
  | succ k1 =>
   have H := HA.out;clear HA;simp only [qV.l0] at H
   by_cases c3 : aa < (l0.length : Int)
   · rw [if_pos c3] at H
     have ax : decide (aa < (l0.length : Int)) = true := decide_eq_true c3;clear c3
     by_cases c4 : 0 ≤ aa
     · rw [if_pos c4] at H
       have bf : decide (0 ≤ aa) = true := decide_eq_true c4;clear c4
       by_cases c5 : aa < (l0.length : Int)
       · rw [if_pos c5] at H
         have bg : decide (aa < (l0.length : Int)) = true := decide_eq_true c5;clear c5
         by_cases c6 : ((xR l0 aa).f1) = a1
         · rw [if_pos c6] at H
           have ay : (((xR l0 aa).f1) == a1) = true := beq_iff_eq.mpr c6;have az : (((xR l0 aa).f1) != a1) = false := bne_eq_false_iff_eq.mpr c6;clear c6;obtain rfl := Option.some.inj H;have ag : 0 ≤ (aa : Int) := of_decide_eq_true (by first | (with_reducible assumption) | assumption);have ah : aa < (l0.length : Int) := of_decide_eq_true (by first | (with_reducible assumption) | assumption);obtain ⟨an, al, ab, ac⟩ := at_T147 av.out aa ag ah;cases al;replace ab := (HB.out.cell (World.block_lt_of_cell? w _ ab)).trans ab;replace ac := (HB.out.cell (World.block_lt_of_cell? w _ ac)).trans ac;replace ag := eq_true ag;replace ah := eq_true ah
           go_wp2_with (first | ((with_reducible refine qU (N := 6) rfl ?_); refine qQ ?hg (N := 6) ?hd (cs := #[.string (⟨#[]⟩ : ByteArray), .int .i64 0]) (t := 147) ?hr ?_; (case hd => rfl); (case hg => rfl); (case hr => first | (go_simp; done) | (go_simp; rfl)); intro ae hg w7 hbox hb; have af := Aside0.mk (hbox); have ao := Aside0.mk ((by rw [hg]; exact (qw (by repeat (first | (with_reducible first | exact HB.out | apply q8 | apply q9 | apply qb) | exact HB.out))) : w.heap.size ≤ ae)); have aj := Aside0.mk ((by rw [hg]; exact (qw (by repeat (first | (with_reducible first | exact HB.out | apply q8 | apply q9 | apply qb) | exact HB.out))) : w.heap.size ≤ ae)); replace HB := Aside0.mk (qr (by repeat (first | (with_reducible first | exact HB.out | apply q8 | apply q9 | apply qb) | exact HB.out)) hb); clear hb hbox hg; have a7 : w7.cell? ⟨ae, 0, none⟩ = some (.string (⟨#[]⟩ : ByteArray)) := (qa af.out 0).trans rfl; have a8 : w7.cell? ⟨ae, 1, none⟩ = some (.int .i64 0) := (qa af.out 1).trans rfl; have a9 := qc af.out 0; have ba := qc af.out 1))
           go_ret
           exact ⟨by first | rfl | (simp [qm, qn] <;> rfl) | (simp [*, qm, qn] <;> rfl), by repeat (first | (with_reducible first | exact HB.out | apply q8 | apply q9 | apply qb | refine qg ?_ aj.out) | exact HB.out)⟩
         · rw [if_neg c6] at H
           have ay : (((xR l0 aa).f1) == a1) = false := beq_eq_false_iff_ne.mpr c6;have az : (((xR l0 aa).f1) != a1) = true := bne_iff_ne.mpr c6;have H' := Aside0.mk H;clear H;have ag : 0 ≤ (aa : Int) := of_decide_eq_true (by first | (with_reducible assumption) | assumption);have ah : aa < (l0.length : Int) := of_decide_eq_true (by first | (with_reducible assumption) | assumption);obtain ⟨an, al, ab, ac⟩ := at_T147 av.out aa ag ah;cases al;replace ab := (HB.out.cell (World.block_lt_of_cell? w _ ab)).trans ab;replace ac := (HB.out.cell (World.block_lt_of_cell? w _ ac)).trans ac;replace ag := eq_true ag;replace ah := eq_true ah
           go_wp2_with (first | ((with_reducible refine qU (N := 6) rfl ?_); refine qQ ?hg (N := 6) ?hd (cs := #[.string (⟨#[]⟩ : ByteArray), .int .i64 0]) (t := 147) ?hr ?_; (case hd => rfl); (case hg => rfl); (case hr => first | (go_simp; done) | (go_simp; rfl)); intro ae hg w9 hbox hb; have af := Aside0.mk (hbox); have ao := Aside0.mk ((by rw [hg]; exact (qw (by repeat (first | (with_reducible first | exact HB.out | apply q8 | apply q9 | apply qb) | exact HB.out))) : w.heap.size ≤ ae)); have aj := Aside0.mk ((by rw [hg]; exact (qw (by repeat (first | (with_reducible first | exact HB.out | apply q8 | apply q9 | apply qb) | exact HB.out))) : w.heap.size ≤ ae)); replace HB := Aside0.mk (qr (by repeat (first | (with_reducible first | exact HB.out | apply q8 | apply q9 | apply qb) | exact HB.out)) hb); clear hb hbox hg; have a0 : w9.cell? ⟨ae, 0, none⟩ = some (.string (⟨#[]⟩ : ByteArray)) := (qa af.out 0).trans rfl; have a2 : w9.cell? ⟨ae, 1, none⟩ = some (.int .i64 0) := (qa af.out 1).trans rfl; have a3 := qc af.out 0; have a4 := qc af.out 1))
           go_roundg k1
           case measure => have := aw.out; omega
           case rel => exact ⟨(wrap64 (aa + 1)), (by first | rfl | (simp; done) | (simp [*]; done)), H', ⟨by have := aw.out; omega⟩, ⟨by repeat (first | (with_reducible first | exact HB.out | apply q8 | apply q9 | apply qb | refine qg ?_ aj.out) | exact HB.out)⟩⟩
       · rw [if_neg c5] at H
         exact absurd H (by simp)
     · rw [if_neg c4] at H
       exact absurd H (by simp)
   · rw [if_neg c3] at H
     have ax : decide (aa < (l0.length : Int)) = false := decide_eq_false c3;clear c3;obtain rfl := Option.some.inj H;go_wp2
     go_ret
     exact ⟨by first | rfl | (simp [qm, qn] <;> rfl) | (simp [*, qm, qn] <;> rfl), by repeat (first | (with_reducible first | exact HB.out | apply q8 | apply q9 | apply qb) | exact HB.out)⟩
def zq.f  : Option ((List (S147))) := some (([(⟨(⟨#[61]⟩ : ByteArray), 17⟩ : S147), (⟨(⟨#[60, 62]⟩ : ByteArray), 18⟩ : S147), (⟨(⟨#[60]⟩ : ByteArray), 19⟩ : S147), (⟨(⟨#[60, 61]⟩ : ByteArray), 20⟩ : S147), (⟨(⟨#[62]⟩ : ByteArray), 21⟩ : S147), (⟨(⟨#[62, 61]⟩ : ByteArray), 22⟩ : S147), (⟨(⟨#[124, 124]⟩ : ByteArray), 16⟩ : S147), (⟨(⟨#[43]⟩ : ByteArray), 11⟩ : S147), (⟨(⟨#[45]⟩ : ByteArray), 12⟩ : S147), (⟨(⟨#[42]⟩ : ByteArray), 13⟩ : S147), (⟨(⟨#[47]⟩ : ByteArray), 14⟩ : S147), (⟨(⟨#[37]⟩ : ByteArray), 15⟩ : S147)] : List (S147)))
set_option maxHeartbeats 8000000 in
set_option maxRecDepth 100000 in
theorem zq.calls  (r : List (S147)) (w : World) (h : zq.f  = some r) :
 Calls Tryz.prog 194 #[] w fun e w' => ∃ v0_ : Value, e = .returned (v0_) ∧ Kd.R k147 147 w' w.heap.size (fun _ => True) v0_ r ∧ Below w.heap.size w w' := by
 have ag := Tryz.underlying147;have HB := Aside0.mk (Below.refl w.heap.size w);have H : (some (([(⟨(⟨#[61]⟩ : ByteArray), 17⟩ : S147), (⟨(⟨#[60, 62]⟩ : ByteArray), 18⟩ : S147), (⟨(⟨#[60]⟩ : ByteArray), 19⟩ : S147), (⟨(⟨#[60, 61]⟩ : ByteArray), 20⟩ : S147), (⟨(⟨#[62]⟩ : ByteArray), 21⟩ : S147), (⟨(⟨#[62, 61]⟩ : ByteArray), 22⟩ : S147), (⟨(⟨#[124, 124]⟩ : ByteArray), 16⟩ : S147), (⟨(⟨#[43]⟩ : ByteArray), 11⟩ : S147), (⟨(⟨#[45]⟩ : ByteArray), 12⟩ : S147), (⟨(⟨#[42]⟩ : ByteArray), 13⟩ : S147), (⟨(⟨#[47]⟩ : ByteArray), 14⟩ : S147), (⟨(⟨#[37]⟩ : ByteArray), 15⟩ : S147)] : List (S147)))) = some r := h;clear h;obtain ⟨af, aa⟩ : ∃ y_ : List (S147), y_ = (([(⟨(⟨#[61]⟩ : ByteArray), 17⟩ : S147), (⟨(⟨#[60, 62]⟩ : ByteArray), 18⟩ : S147), (⟨(⟨#[60]⟩ : ByteArray), 19⟩ : S147), (⟨(⟨#[60, 61]⟩ : ByteArray), 20⟩ : S147), (⟨(⟨#[62]⟩ : ByteArray), 21⟩ : S147), (⟨(⟨#[62, 61]⟩ : ByteArray), 22⟩ : S147), (⟨(⟨#[124, 124]⟩ : ByteArray), 16⟩ : S147), (⟨(⟨#[43]⟩ : ByteArray), 11⟩ : S147), (⟨(⟨#[45]⟩ : ByteArray), 12⟩ : S147), (⟨(⟨#[42]⟩ : ByteArray), 13⟩ : S147), (⟨(⟨#[47]⟩ : ByteArray), 14⟩ : S147), (⟨(⟨#[37]⟩ : ByteArray), 15⟩ : S147)] : List (S147))) := ⟨_, rfl⟩
 replace H : (some af) = some r := by first | (rw [aa]; with_reducible exact H) | (have H2_ := (Option.bind_some _ _).symm.trans H; rw [aa]; with_reducible exact H2_) | (have H2_ := (Option.bind_some _ _).symm.trans H; with_reducible exact H2_) | with_reducible exact H | (rw [aa]; exact H) | exact H
 have ac := Aside0.mk aa;clear aa;obtain rfl := Option.some.inj H
 go_enter Tryz.func194, Tryz.ntmps194
 go_wp2_with (first | ((with_reducible refine qU (N := 13) rfl ?_); refine Kd.R_lit k147 _ 147 ?hg (N := 13) ?hd (xs := ([(⟨(⟨#[61]⟩ : ByteArray), 17⟩ : S147), (⟨(⟨#[60, 62]⟩ : ByteArray), 18⟩ : S147), (⟨(⟨#[60]⟩ : ByteArray), 19⟩ : S147), (⟨(⟨#[60, 61]⟩ : ByteArray), 20⟩ : S147), (⟨(⟨#[62]⟩ : ByteArray), 21⟩ : S147), (⟨(⟨#[62, 61]⟩ : ByteArray), 22⟩ : S147), (⟨(⟨#[124, 124]⟩ : ByteArray), 16⟩ : S147), (⟨(⟨#[43]⟩ : ByteArray), 11⟩ : S147), (⟨(⟨#[45]⟩ : ByteArray), 12⟩ : S147), (⟨(⟨#[42]⟩ : ByteArray), 13⟩ : S147), (⟨(⟨#[47]⟩ : ByteArray), 14⟩ : S147), (⟨(⟨#[37]⟩ : ByteArray), 15⟩ : S147)] : List (S147))) (inner := [.string (⟨#[61]⟩ : ByteArray), .int .i64 17, .string (⟨#[60, 62]⟩ : ByteArray), .int .i64 18, .string (⟨#[60]⟩ : ByteArray), .int .i64 19, .string (⟨#[60, 61]⟩ : ByteArray), .int .i64 20, .string (⟨#[62]⟩ : ByteArray), .int .i64 21, .string (⟨#[62, 61]⟩ : ByteArray), .int .i64 22, .string (⟨#[124, 124]⟩ : ByteArray), .int .i64 16, .string (⟨#[43]⟩ : ByteArray), .int .i64 11, .string (⟨#[45]⟩ : ByteArray), .int .i64 12, .string (⟨#[42]⟩ : ByteArray), .int .i64 13, .string (⟨#[47]⟩ : ByteArray), .int .i64 14, .string (⟨#[37]⟩ : ByteArray), .int .i64 15]) (ok := fun _ => True) (okp := fun _ => True) ?hr ?hp (fun _ hk => hk) trivial (Below.refl _ _) (Nat.le_refl _) (by simp) ?_; (case hd => rfl); (case hg => rfl); (case hr => first | (go_simp; done) | (go_simp; rfl)); (case hp => exact (Reps.c2 (show Kd.M k147 _ _ _ (⟨(⟨#[61]⟩ : ByteArray), 17⟩ : S147) [.string (⟨#[61]⟩ : ByteArray), .int .i64 17] from (xh _ _ _ (⟨(⟨#[61]⟩ : ByteArray), 17⟩ : S147) )) (Reps.c2 (show Kd.M k147 _ _ _ (⟨(⟨#[60, 62]⟩ : ByteArray), 18⟩ : S147) [.string (⟨#[60, 62]⟩ : ByteArray), .int .i64 18] from (xh _ _ _ (⟨(⟨#[60, 62]⟩ : ByteArray), 18⟩ : S147) )) (Reps.c2 (show Kd.M k147 _ _ _ (⟨(⟨#[60]⟩ : ByteArray), 19⟩ : S147) [.string (⟨#[60]⟩ : ByteArray), .int .i64 19] from (xh _ _ _ (⟨(⟨#[60]⟩ : ByteArray), 19⟩ : S147) )) (Reps.c2 (show Kd.M k147 _ _ _ (⟨(⟨#[60, 61]⟩ : ByteArray), 20⟩ : S147) [.string (⟨#[60, 61]⟩ : ByteArray), .int .i64 20] from (xh _ _ _ (⟨(⟨#[60, 61]⟩ : ByteArray), 20⟩ : S147) )) (Reps.c2 (show Kd.M k147 _ _ _ (⟨(⟨#[62]⟩ : ByteArray), 21⟩ : S147) [.string (⟨#[62]⟩ : ByteArray), .int .i64 21] from (xh _ _ _ (⟨(⟨#[62]⟩ : ByteArray), 21⟩ : S147) )) (Reps.c2 (show Kd.M k147 _ _ _ (⟨(⟨#[62, 61]⟩ : ByteArray), 22⟩ : S147) [.string (⟨#[62, 61]⟩ : ByteArray), .int .i64 22] from (xh _ _ _ (⟨(⟨#[62, 61]⟩ : ByteArray), 22⟩ : S147) )) (Reps.c2 (show Kd.M k147 _ _ _ (⟨(⟨#[124, 124]⟩ : ByteArray), 16⟩ : S147) [.string (⟨#[124, 124]⟩ : ByteArray), .int .i64 16] from (xh _ _ _ (⟨(⟨#[124, 124]⟩ : ByteArray), 16⟩ : S147) )) (Reps.c2 (show Kd.M k147 _ _ _ (⟨(⟨#[43]⟩ : ByteArray), 11⟩ : S147) [.string (⟨#[43]⟩ : ByteArray), .int .i64 11] from (xh _ _ _ (⟨(⟨#[43]⟩ : ByteArray), 11⟩ : S147) )) (Reps.c2 (show Kd.M k147 _ _ _ (⟨(⟨#[45]⟩ : ByteArray), 12⟩ : S147) [.string (⟨#[45]⟩ : ByteArray), .int .i64 12] from (xh _ _ _ (⟨(⟨#[45]⟩ : ByteArray), 12⟩ : S147) )) (Reps.c2 (show Kd.M k147 _ _ _ (⟨(⟨#[42]⟩ : ByteArray), 13⟩ : S147) [.string (⟨#[42]⟩ : ByteArray), .int .i64 13] from (xh _ _ _ (⟨(⟨#[42]⟩ : ByteArray), 13⟩ : S147) )) (Reps.c2 (show Kd.M k147 _ _ _ (⟨(⟨#[47]⟩ : ByteArray), 14⟩ : S147) [.string (⟨#[47]⟩ : ByteArray), .int .i64 14] from (xh _ _ _ (⟨(⟨#[47]⟩ : ByteArray), 14⟩ : S147) )) (Reps.c2 (show Kd.M k147 _ _ _ (⟨(⟨#[37]⟩ : ByteArray), 15⟩ : S147) [.string (⟨#[37]⟩ : ByteArray), .int .i64 15] from (xh _ _ _ (⟨(⟨#[37]⟩ : ByteArray), 15⟩ : S147) )) (Reps.none _ _)))))))))))))); intro ah w1 ab hb hg_ hnew_; clear hg_ hnew_; (first | rw [← ac.out] at ab | (simp only [Int.reduceToNat] at ab; rw [← ac.out] at ab)); have ae := Aside0.mk (Kd.R_lower ab (qw (by repeat (first | (with_reducible first | exact HB.out | apply q8 | apply q9 | apply qb) | exact HB.out)))); replace HB := Aside0.mk (qr (by repeat (first | (with_reducible first | exact HB.out | apply q8 | apply q9 | apply qb) | exact HB.out)) hb); clear hb ab))
 go_ret
 exact ⟨_, by first | rfl | (simp [qm, qn] <;> rfl) | (simp [*, qm, qn] <;> rfl), by (with_reducible repeat (first | apply Kd.R_alloc | apply Kd.R_drewN | apply Kd.R_drew)); exact ae.out, by repeat (first | (with_reducible first | exact HB.out | apply q8 | apply q9 | apply qb) | exact HB.out)⟩
mutual
def z7.j0 : Nat → Int → Int → Bool → Option (ByteArray × Int)
 | 0, _, _, _ => none
 | k + 1, x0, x4, x9 => if x9 = true then ((zq.f).bind fun t108 => ((qV.f k t108 x0).bind fun t111 => (some (t111, 6)))) else (if x4 = 13 then (z7.j1 k x0 x4 (x4 == 13)) else (if x4 = 14 then (z7.j1 k x0 x4 (x4 == 14)) else (z7.j1 k x0 x4 (x4 == 15))))
def z7.j1 : Nat → Int → Int → Bool → Option (ByteArray × Int)
 | 0, _, _, _ => none
 | k + 1, x0, x4, x15 => if x15 = true then ((zq.f).bind fun t112 => ((qV.f k t112 x0).bind fun t115 => (some (t115, 7)))) else (if x4 = 16 then (some ((⟨#[124, 124]⟩ : ByteArray), 5)) else ((zq.f).bind fun t116 => ((qV.f k t116 x0).bind fun t119 => (some (t119, 4)))))
end
def z7.f (k : Nat) (a0 : Int) : Option (ByteArray × Int) := if a0 = 23 then (some ((⟨#[65, 78, 68]⟩ : ByteArray), 2)) else (if a0 = 24 then (some ((⟨#[79, 82]⟩ : ByteArray), 1)) else (if a0 = 11 then (z7.j0 k a0 a0 (a0 == 11)) else (z7.j0 k a0 a0 (a0 == 12))))
set_option maxHeartbeats 8000000 in
set_option maxRecDepth 100000 in
theorem z7.calls (k : Nat) (a0 : Int) (r1 : ByteArray) (r2 : Int) (w : World) (h : z7.f k a0 = some (r1, r2)) :
 Calls Tryz.prog 183 #[.int .i64 a0] w fun e w' => e = .returned (.tuple #[.string r1, .int .i64 r2]) ∧ Below w.heap.size w w' := by
 have HB := Aside0.mk (Below.refl w.heap.size w);have H : (if a0 = 23 then (some ((⟨#[65, 78, 68]⟩ : ByteArray), 2)) else (if a0 = 24 then (some ((⟨#[79, 82]⟩ : ByteArray), 1)) else (if a0 = 11 then (z7.j0 k a0 a0 (a0 == 11)) else (z7.j0 k a0 a0 (a0 == 12))))) = some (r1, r2) := h;clear h
 by_cases c2 : a0 = 23
 · rw [if_pos c2] at H
   have a5 : (a0 == 23) = true := beq_iff_eq.mpr c2;have a6 : (a0 != 23) = false := bne_eq_false_iff_eq.mpr c2;clear c2;simp only [Option.some.injEq, Prod.mk.injEq] at H;obtain ⟨rfl, rfl⟩ := H
   go_enter Tryz.func183, Tryz.ntmps183
   go_wp2
   go_ret2
   exact ⟨by first | rfl | (simp [qm, qn] <;> rfl) | (simp [*, qm, qn] <;> rfl), by repeat (first | (with_reducible first | exact HB.out | apply q8 | apply q9 | apply qb) | exact HB.out)⟩
 · rw [if_neg c2] at H
   have a5 : (a0 == 23) = false := beq_eq_false_iff_ne.mpr c2;have a6 : (a0 != 23) = true := bne_iff_ne.mpr c2
   by_cases c3 : a0 = 24
   · rw [if_pos c3] at H
     have a7 : (a0 == 24) = true := beq_iff_eq.mpr c3;have a8 : (a0 != 24) = false := bne_eq_false_iff_eq.mpr c3;clear c3;simp only [Option.some.injEq, Prod.mk.injEq] at H;obtain ⟨rfl, rfl⟩ := H
     go_enter Tryz.func183, Tryz.ntmps183
     go_wp2
     go_ret2
     exact ⟨by first | rfl | (simp [qm, qn] <;> rfl) | (simp [*, qm, qn] <;> rfl), by repeat (first | (with_reducible first | exact HB.out | apply q8 | apply q9 | apply qb) | exact HB.out)⟩
   · rw [if_neg c3] at H
     have a7 : (a0 == 24) = false := beq_eq_false_iff_ne.mpr c3;have a8 : (a0 != 24) = true := bne_iff_ne.mpr c3;have bg := Aside0.mk H;clear H
     go_enter Tryz.func183, Tryz.ntmps183
     go_upto_if 9 with (fail)
     go_cut [9] (fun v9 wc => ∃ (kq : Nat) (a2 : Bool), v9 = .bool a2 ∧ Aside0 (z7.j0 kq a0 a0 a2 = some (r1, r2)) ∧ Aside0 (kq ≤ k) ∧ Aside0 (Below w.heap.size w wc))
     case first =>
      have H := bg.out;clear bg
      by_cases c5 : a0 = 11
      · rw [if_pos c5] at H
        have af : (a0 == 11) = true := beq_iff_eq.mpr c5;have a9 : (a0 != 11) = false := bne_eq_false_iff_eq.mpr c5;clear c5
        (first | rw [af] | (simp only [qH, qK]; rw [af]) | skip)
        have H' := Aside0.mk H;clear H;go_wp2;go_meet
        case rel => exact ⟨_, ((a0 == 11)), (by first | rfl | (simp; done) | (simp [*]; done)), H', ⟨by first | omega | exact Nat.le_refl _⟩, ⟨by repeat (first | (with_reducible first | exact HB.out | apply q8 | apply q9 | apply qb) | exact HB.out)⟩⟩
      · rw [if_neg c5] at H
        have af : (a0 == 11) = false := beq_eq_false_iff_ne.mpr c5;have a9 : (a0 != 11) = true := bne_iff_ne.mpr c5
        (first | rw [af] | (simp only [qH, qK]; rw [af]) | skip)
        have H' := Aside0.mk H;clear H;go_wp2;go_meet
        case rel => exact ⟨_, ((a0 == 12)), (by first | rfl | (simp; done) | (simp [*]; done)), H', ⟨by first | omega | exact Nat.le_refl _⟩, ⟨by repeat (first | (with_reducible first | exact HB.out | apply q8 | apply q9 | apply qb) | exact HB.out)⟩⟩
     case rest =>
      clear bg
      (try clear c1); (try clear c2); (try clear a5); (try clear a6); (try clear p2); (try clear c3); (try clear a7); (try clear a8); (try clear c5); (try clear af); (try clear a9)
      obtain ⟨kq, a2, rfl, HA, bh, HB⟩ := hcut
      cases kq with
      | zero => exact absurd HA.out (by simp [z7.j0])
      | succ ay =>
       have H := HA.out;clear HA;simp only [z7.j0] at H
       by_cases c6 : a2 = true
       · subst c6
         have H1 : ((zq.f).bind fun ak => ((qV.f ay ak a0).bind fun al => (some (al, 6)))) = some (r1, r2) := by rw [if_pos rfl] at H; exact H
         clear H;have H := H1;clear H1;replace H := Option.bind_eq_some_iff.mp H;obtain ⟨ak, bp, H⟩ := H;replace H : ((qV.f ay ak a0).bind fun al => (some (al, 6))) = some (r1, r2) := H;have A7 := Aside0.mk bp;clear bp;replace H := Option.bind_eq_some_iff.mp H;obtain ⟨al, bq, H⟩ := H;replace H : (some (al, 6)) = some (r1, r2) := H;have A8 := Aside0.mk bq;clear bq;simp only [Option.some.injEq, Prod.mk.injEq] at H;obtain ⟨rfl, rfl⟩ := H
         go_wp2_with (first | ((with_reducible refine qI (f := 194) rfl ?_); refine zh (some 12) rfl rfl Tryz.func194 (by kernel_rfl) rfl #[] rfl (by (try simp only [List.map_toArray, List.map_cons, List.map_nil]); first | done | rfl | (simp only [List.length_drop, List.length_take]; rfl)) ?_; (with_reducible refine (zq.calls  ak _ A7.out).mono ?_); rintro e w9 ⟨cc, rfl, av, hb⟩; refine ⟨_, rfl, ?_⟩; have ag := Aside0.mk (Kd.R_lower av (qw (by repeat (first | (with_reducible first | exact HB.out | apply q8 | apply q9 | apply qb) | exact HB.out)))); replace HB := Aside0.mk (qr (by repeat (first | (with_reducible first | exact HB.out | apply q8 | apply q9 | apply qb) | exact HB.out)) hb); (try clear hb); (try clear a4); (try clear hk); (try clear hi); (try clear av); obtain ⟨br, bs, bu⟩ := Kd.R_slice ag.out; subst bu) | ((with_reducible refine qI (f := 85) rfl ?_); refine zh (some 14) rfl rfl Tryz.func85 (by kernel_rfl) rfl #[.slice br ak.length bs, .int .i64 a0] rfl (by (try simp only [List.map_toArray, List.map_cons, List.map_nil]); first | done | rfl | (simp only [List.length_drop, List.length_take]; rfl)) ?_; (with_reducible refine (qV.calls ay _ _ ak a0 al _ ?side1 ?side2 A8.out).mono ?_); (case side1 => repeat (first | exact (Kd.R_reads' ag.out).2.2 | (with_reducible refine Kd.C_alloc ?_ _) | (with_reducible refine Kd.C_drewN ?_ _) | (with_reducible refine Kd.C_drew ?_))); (case side2 => exact (Kd.R_reads' ag.out).2.1); rintro e cg ⟨rfl, hb⟩; refine ⟨_, rfl, ?_⟩; replace ag := Aside0.mk (Kd.R_below (by (with_reducible repeat (first | apply Kd.R_alloc | apply Kd.R_drewN | apply Kd.R_drew)); exact ag.out) hb); replace HB := Aside0.mk (qr (by repeat (first | (with_reducible first | exact HB.out | apply q8 | apply q9 | apply qb) | exact HB.out)) hb); (try clear hb); (try clear a4); (try clear hk); (try clear hi)))
         go_ret2
         exact ⟨by first | rfl | (simp [qm, qn] <;> rfl) | (simp [*, qm, qn] <;> rfl), by repeat (first | (with_reducible first | exact HB.out | apply q8 | apply q9 | apply qb) | exact HB.out)⟩
       · replace c6 := Bool.eq_false_iff.mpr c6
         subst c6
         have H1 : (if a0 = 13 then (z7.j1 ay a0 a0 (a0 == 13)) else (if a0 = 14 then (z7.j1 ay a0 a0 (a0 == 14)) else (z7.j1 ay a0 a0 (a0 == 15)))) = some (r1, r2) := by rw [if_neg (show ¬ (false = true) by decide)] at H; exact H
         clear H;have H := H1;clear H1;have ba := Aside0.mk H;clear H
         go_upto_if 15 with (fail)
         go_cut [15] (fun b3 wc => ∃ (kq : Nat) (ah : Bool), b3 = .bool ah ∧ Aside0 (z7.j1 kq a0 a0 ah = some (r1, r2)) ∧ Aside0 (kq ≤ ay) ∧ Aside0 (Below w.heap.size w wc))
         case first =>
          have H := ba.out;clear ba
          by_cases aw : a0 = 13
          · rw [if_pos aw] at H
            have ab : (a0 == 13) = true := beq_iff_eq.mpr aw;have bb : (a0 != 13) = false := bne_eq_false_iff_eq.mpr aw;clear aw
            (first | rw [ab] | (simp only [qH, qK]; rw [ab]) | skip)
            have H' := Aside0.mk H;clear H;go_wp2;go_meet
            case rel => exact ⟨_, ((a0 == 13)), (by first | rfl | (simp; done) | (simp [*]; done)), H', ⟨by have := bh.out; first | omega | exact Nat.le_refl _⟩, ⟨by repeat (first | (with_reducible first | exact HB.out | apply q8 | apply q9 | apply qb) | exact HB.out)⟩⟩
          · rw [if_neg aw] at H
            have ab : (a0 == 13) = false := beq_eq_false_iff_ne.mpr aw;have bb : (a0 != 13) = true := bne_iff_ne.mpr aw
            (first | rw [ab] | (simp only [qH, qK]; rw [ab]) | skip)
            by_cases ax : a0 = 14
            · rw [if_pos ax] at H
              have bc : (a0 == 14) = true := beq_iff_eq.mpr ax;have bd : (a0 != 14) = false := bne_eq_false_iff_eq.mpr ax;clear ax;have H' := Aside0.mk H;clear H;go_wp2;go_meet
              case rel => exact ⟨_, ((a0 == 14)), (by first | rfl | (simp; done) | (simp [*]; done)), H', ⟨by have := bh.out; first | omega | exact Nat.le_refl _⟩, ⟨by repeat (first | (with_reducible first | exact HB.out | apply q8 | apply q9 | apply qb) | exact HB.out)⟩⟩
            · rw [if_neg ax] at H
              have bc : (a0 == 14) = false := beq_eq_false_iff_ne.mpr ax;have bd : (a0 != 14) = true := bne_iff_ne.mpr ax;have H' := Aside0.mk H;clear H;go_wp2;go_meet
              case rel => exact ⟨_, ((a0 == 15)), (by first | rfl | (simp; done) | (simp [*]; done)), H', ⟨by have := bh.out; first | omega | exact Nat.le_refl _⟩, ⟨by repeat (first | (with_reducible first | exact HB.out | apply q8 | apply q9 | apply qb) | exact HB.out)⟩⟩
         case rest =>
          clear ba
          (try clear c1); (try clear c2); (try clear a5); (try clear a6); (try clear p2); (try clear c3); (try clear a7); (try clear a8); (try clear c5); (try clear af); (try clear a9); (try clear c6); (try clear c8); (try clear aw); (try clear ab); (try clear bb); (try clear ax); (try clear bc); (try clear bd); (try clear p2)
          obtain ⟨kq, ah, rfl, HA, cd, HB⟩ := hcut
          cases kq with
          | zero => exact absurd HA.out (by simp [z7.j1])
          | succ am =>
           have H := HA.out;clear HA;simp only [z7.j1] at H
           by_cases bf : ah = true
           · subst bf
             have H1 : ((zq.f).bind fun an => ((qV.f am an a0).bind fun ao => (some (ao, 7)))) = some (r1, r2) := by rw [if_pos rfl] at H; exact H
             clear H;have H := H1;clear H1;replace H := Option.bind_eq_some_iff.mp H;obtain ⟨an, bj, H⟩ := H;replace H : ((qV.f am an a0).bind fun ao => (some (ao, 7))) = some (r1, r2) := H;have b4 := Aside0.mk bj;clear bj;replace H := Option.bind_eq_some_iff.mp H;obtain ⟨ao, bk, H⟩ := H;replace H : (some (ao, 7)) = some (r1, r2) := H;have b5 := Aside0.mk bk;clear bk;simp only [Option.some.injEq, Prod.mk.injEq] at H;obtain ⟨rfl, rfl⟩ := H
             go_wp2_with (first | ((with_reducible refine qI (f := 194) rfl ?_); refine zh (some 19) rfl rfl Tryz.func194 (by kernel_rfl) rfl #[] rfl (by (try simp only [List.map_toArray, List.map_cons, List.map_nil]); first | done | rfl | (simp only [List.length_drop, List.length_take]; rfl)) ?_; (with_reducible refine (zq.calls  an _ b4.out).mono ?_); rintro e ch ⟨ce, rfl, av, hb⟩; refine ⟨_, rfl, ?_⟩; have ai := Aside0.mk (Kd.R_lower av (qw (by repeat (first | (with_reducible first | exact HB.out | apply q8 | apply q9 | apply qb) | exact HB.out)))); replace HB := Aside0.mk (qr (by repeat (first | (with_reducible first | exact HB.out | apply q8 | apply q9 | apply qb) | exact HB.out)) hb); (try clear hb); (try clear a4); (try clear hk); (try clear hi); (try clear av); obtain ⟨bv, bw, bz⟩ := Kd.R_slice ai.out; subst bz) | ((with_reducible refine qI (f := 85) rfl ?_); refine zh (some 21) rfl rfl Tryz.func85 (by kernel_rfl) rfl #[.slice bv an.length bw, .int .i64 a0] rfl (by (try simp only [List.map_toArray, List.map_cons, List.map_nil]); first | done | rfl | (simp only [List.length_drop, List.length_take]; rfl)) ?_; (with_reducible refine (qV.calls am _ _ an a0 ao _ ?side1 ?side2 b5.out).mono ?_); (case side1 => repeat (first | exact (Kd.R_reads' ai.out).2.2 | (with_reducible refine Kd.C_alloc ?_ _) | (with_reducible refine Kd.C_drewN ?_ _) | (with_reducible refine Kd.C_drew ?_))); (case side2 => exact (Kd.R_reads' ai.out).2.1); rintro e ci ⟨rfl, hb⟩; refine ⟨_, rfl, ?_⟩; replace ai := Aside0.mk (Kd.R_below (by (with_reducible repeat (first | apply Kd.R_alloc | apply Kd.R_drewN | apply Kd.R_drew)); exact ai.out) hb); replace HB := Aside0.mk (qr (by repeat (first | (with_reducible first | exact HB.out | apply q8 | apply q9 | apply qb) | exact HB.out)) hb); (try clear hb); (try clear a4); (try clear hk); (try clear hi)))
             go_ret2
             exact ⟨by first | rfl | (simp [qm, qn] <;> rfl) | (simp [*, qm, qn] <;> rfl), by repeat (first | (with_reducible first | exact HB.out | apply q8 | apply q9 | apply qb) | exact HB.out)⟩
           · replace bf := Bool.eq_false_iff.mpr bf
             subst bf
             have H1 : (if a0 = 16 then (some ((⟨#[124, 124]⟩ : ByteArray), 5)) else ((zq.f).bind fun ap => ((qV.f am ap a0).bind fun au => (some (au, 4))))) = some (r1, r2) := by rw [if_neg (show ¬ (false = true) by decide)] at H; exact H
             clear H;have H := H1;clear H1
             by_cases a1 : a0 = 16
             · rw [if_pos a1] at H
               have bn : (a0 == 16) = true := beq_iff_eq.mpr a1;have bo : (a0 != 16) = false := bne_eq_false_iff_eq.mpr a1;clear a1;simp only [Option.some.injEq, Prod.mk.injEq] at H;obtain ⟨rfl, rfl⟩ := H;go_wp2
               go_ret2
               exact ⟨by first | rfl | (simp [qm, qn] <;> rfl) | (simp [*, qm, qn] <;> rfl), by repeat (first | (with_reducible first | exact HB.out | apply q8 | apply q9 | apply qb) | exact HB.out)⟩
             · rw [if_neg a1] at H
               have bn : (a0 == 16) = false := beq_eq_false_iff_ne.mpr a1;have bo : (a0 != 16) = true := bne_iff_ne.mpr a1;replace H := Option.bind_eq_some_iff.mp H;obtain ⟨ap, bl, H⟩ := H;replace H : ((qV.f am ap a0).bind fun au => (some (au, 4))) = some (r1, r2) := H;have b6 := Aside0.mk bl;clear bl;replace H := Option.bind_eq_some_iff.mp H;obtain ⟨au, bm, H⟩ := H;replace H : (some (au, 4)) = some (r1, r2) := H;have b7 := Aside0.mk bm;clear bm;simp only [Option.some.injEq, Prod.mk.injEq] at H;obtain ⟨rfl, rfl⟩ := H
               go_wp2_with (first | ((with_reducible refine qI (f := 194) rfl ?_); refine zh (some 24) rfl rfl Tryz.func194 (by kernel_rfl) rfl #[] rfl (by (try simp only [List.map_toArray, List.map_cons, List.map_nil]); first | done | rfl | (simp only [List.length_drop, List.length_take]; rfl)) ?_; (with_reducible refine (zq.calls  ap _ b6.out).mono ?_); rintro e cj ⟨cf, rfl, av, hb⟩; refine ⟨_, rfl, ?_⟩; have aj := Aside0.mk (Kd.R_lower av (qw (by repeat (first | (with_reducible first | exact HB.out | apply q8 | apply q9 | apply qb) | exact HB.out)))); replace HB := Aside0.mk (qr (by repeat (first | (with_reducible first | exact HB.out | apply q8 | apply q9 | apply qb) | exact HB.out)) hb); (try clear hb); (try clear a4); (try clear hk); (try clear hi); (try clear av); obtain ⟨b0, b1, b2⟩ := Kd.R_slice aj.out; subst b2) | ((with_reducible refine qI (f := 85) rfl ?_); refine zh (some 26) rfl rfl Tryz.func85 (by kernel_rfl) rfl #[.slice b0 ap.length b1, .int .i64 a0] rfl (by (try simp only [List.map_toArray, List.map_cons, List.map_nil]); first | done | rfl | (simp only [List.length_drop, List.length_take]; rfl)) ?_; (with_reducible refine (qV.calls am _ _ ap a0 au _ ?side1 ?side2 b7.out).mono ?_); (case side1 => repeat (first | exact (Kd.R_reads' aj.out).2.2 | (with_reducible refine Kd.C_alloc ?_ _) | (with_reducible refine Kd.C_drewN ?_ _) | (with_reducible refine Kd.C_drew ?_))); (case side2 => exact (Kd.R_reads' aj.out).2.1); rintro e ck ⟨rfl, hb⟩; refine ⟨_, rfl, ?_⟩; replace aj := Aside0.mk (Kd.R_below (by (with_reducible repeat (first | apply Kd.R_alloc | apply Kd.R_drewN | apply Kd.R_drew)); exact aj.out) hb); replace HB := Aside0.mk (qr (by repeat (first | (with_reducible first | exact HB.out | apply q8 | apply q9 | apply qb) | exact HB.out)) hb); (try clear hb); (try clear a4); (try clear hk); (try clear hi)))
               go_ret2
               exact ⟨by first | rfl | (simp [qm, qn] <;> rfl) | (simp [*, qm, qn] <;> rfl), by repeat (first | (with_reducible first | exact HB.out | apply q8 | apply q9 | apply qb) | exact HB.out)⟩
def qP.j0 : Nat → ByteArray → Bool → Option (Int × Int × Bool)
 | 0, _, _ => none
 | k + 1, x5, x6 => if x6 = true then (some (1, 1, true)) else (if x5.toList = ([110, 117, 108, 108, 105, 102] : List UInt8) then (some (2, 2, true)) else (if x5.toList = ([115, 117, 98, 115, 116, 114] : List UInt8) then (some (3, 3, true)) else (if x5.toList = ([99, 111, 97, 108, 101, 115, 99, 101] : List UInt8) then (some (1, 16, true)) else (if x5.toList = ([108, 101, 97, 115, 116] : List UInt8) then (some (1, 16, true)) else (if x5.toList = ([103, 114, 101, 97, 116, 101, 115, 116] : List UInt8) then (some (1, 16, true)) else (some (0, 0, false)))))))
def qP.f (k : Nat) (a0 : ByteArray) : Option (Int × Int × Bool) := if a0.toList = ([97, 98, 115] : List UInt8) then (qP.j0 k a0 (a0.toList == ([97, 98, 115] : List UInt8))) else (if a0.toList = ([108, 101, 110, 103, 116, 104] : List UInt8) then (qP.j0 k a0 (a0.toList == ([108, 101, 110, 103, 116, 104] : List UInt8))) else (if a0.toList = ([108, 111, 119, 101, 114] : List UInt8) then (qP.j0 k a0 (a0.toList == ([108, 111, 119, 101, 114] : List UInt8))) else (qP.j0 k a0 (a0.toList == ([117, 112, 112, 101, 114] : List UInt8)))))
set_option maxHeartbeats 8000000 in
set_option maxRecDepth 100000 in
theorem qP.calls (k : Nat) (a0 : ByteArray) (r1 : Int) (r2 : Int) (r3 : Bool) (w : World) (h : qP.f k a0 = some (r1, r2, r3)) :
 Calls Tryz.prog 184 #[.string a0] w fun e w' => e = .returned (.tuple #[.int .i64 r1, .int .i64 r2, .bool r3]) ∧ qt w w' := by
 have H : (if a0.toList = ([97, 98, 115] : List UInt8) then (qP.j0 k a0 (a0.toList == ([97, 98, 115] : List UInt8))) else (if a0.toList = ([108, 101, 110, 103, 116, 104] : List UInt8) then (qP.j0 k a0 (a0.toList == ([108, 101, 110, 103, 116, 104] : List UInt8))) else (if a0.toList = ([108, 111, 119, 101, 114] : List UInt8) then (qP.j0 k a0 (a0.toList == ([108, 111, 119, 101, 114] : List UInt8))) else (qP.j0 k a0 (a0.toList == ([117, 112, 112, 101, 114] : List UInt8)))))) = some (r1, r2, r3) := h;clear h;have an := Aside0.mk H;clear H
 go_enter Tryz.func184, Tryz.ntmps184
 go_upto_if 6 with (fail)
 go_cut [6] (fun v6 wc => ∃ (kq : Nat) (af : Bool), v6 = .bool af ∧ Aside0 (qP.j0 kq a0 af = some (r1, r2, r3)) ∧ Aside0 (kq ≤ k) ∧ qt w wc)
 case first =>
  have H := an.out;clear an
  by_cases c3 : a0.toList = ([97, 98, 115] : List UInt8)
  · rw [if_pos c3] at H
    have ab : (a0.toList == ([97, 98, 115] : List UInt8)) = true := beq_iff_eq.mpr c3;have ao : (a0.toList != ([97, 98, 115] : List UInt8)) = false := bne_eq_false_iff_eq.mpr c3;clear c3
    (first | rw [ab] | (simp only [qH, qK]; rw [ab]) | skip)
    have H' := Aside0.mk H;clear H;go_wp2;go_meet
    case rel => exact ⟨_, ((a0.toList == ([97, 98, 115] : List UInt8))), (by first | rfl | (simp; done) | (simp [*]; done)), H', ⟨by first | omega | exact Nat.le_refl _⟩, by repeat (first | exact qt.refl _ | apply qt.step)⟩
  · rw [if_neg c3] at H
    have ab : (a0.toList == ([97, 98, 115] : List UInt8)) = false := beq_eq_false_iff_ne.mpr c3;have ao : (a0.toList != ([97, 98, 115] : List UInt8)) = true := bne_iff_ne.mpr c3
    (first | rw [ab] | (simp only [qH, qK]; rw [ab]) | skip)
    by_cases c4 : a0.toList = ([108, 101, 110, 103, 116, 104] : List UInt8)
    · rw [if_pos c4] at H
      have ap : (a0.toList == ([108, 101, 110, 103, 116, 104] : List UInt8)) = true := beq_iff_eq.mpr c4;have au : (a0.toList != ([108, 101, 110, 103, 116, 104] : List UInt8)) = false := bne_eq_false_iff_eq.mpr c4;clear c4;have H' := Aside0.mk H;clear H;go_wp2;go_meet
      case rel => exact ⟨_, ((a0.toList == ([108, 101, 110, 103, 116, 104] : List UInt8))), (by first | rfl | (simp; done) | (simp [*]; done)), H', ⟨by first | omega | exact Nat.le_refl _⟩, by repeat (first | exact qt.refl _ | apply qt.step)⟩
    · rw [if_neg c4] at H
      have ap : (a0.toList == ([108, 101, 110, 103, 116, 104] : List UInt8)) = false := beq_eq_false_iff_ne.mpr c4;have au : (a0.toList != ([108, 101, 110, 103, 116, 104] : List UInt8)) = true := bne_iff_ne.mpr c4
      by_cases c5 : a0.toList = ([108, 111, 119, 101, 114] : List UInt8)
      · rw [if_pos c5] at H
        have av : (a0.toList == ([108, 111, 119, 101, 114] : List UInt8)) = true := beq_iff_eq.mpr c5;have aw : (a0.toList != ([108, 111, 119, 101, 114] : List UInt8)) = false := bne_eq_false_iff_eq.mpr c5;clear c5;have H' := Aside0.mk H;clear H;go_wp2;go_meet
        case rel => exact ⟨_, ((a0.toList == ([108, 111, 119, 101, 114] : List UInt8))), (by first | rfl | (simp; done) | (simp [*]; done)), H', ⟨by first | omega | exact Nat.le_refl _⟩, by repeat (first | exact qt.refl _ | apply qt.step)⟩
      · rw [if_neg c5] at H
        have av : (a0.toList == ([108, 111, 119, 101, 114] : List UInt8)) = false := beq_eq_false_iff_ne.mpr c5;have aw : (a0.toList != ([108, 111, 119, 101, 114] : List UInt8)) = true := bne_iff_ne.mpr c5;have H' := Aside0.mk H;clear H;go_wp2;go_meet
        case rel => exact ⟨_, ((a0.toList == ([117, 112, 112, 101, 114] : List UInt8))), (by first | rfl | (simp; done) | (simp [*]; done)), H', ⟨by first | omega | exact Nat.le_refl _⟩, by repeat (first | exact qt.refl _ | apply qt.step)⟩
 case rest =>
  clear an
  (try clear c1); (try clear p2); (try clear c3); (try clear ab); (try clear ao); (try clear c4); (try clear ap); (try clear au); (try clear c5); (try clear av); (try clear aw)
  obtain ⟨kq, af, rfl, HA, bb, ⟨bc, rfl⟩⟩ := hcut
  cases kq with
  | zero => exact absurd HA.out (by simp [qP.j0])
  | succ bd =>
   have H := HA.out;clear HA;simp only [qP.j0] at H
   by_cases c6 : af = true
   · subst c6
     have H1 : (some (1, 1, true)) = some (r1, r2, r3) := by rw [if_pos rfl] at H; exact H
     clear H;have H := H1;clear H1;simp only [Option.some.injEq, Prod.mk.injEq] at H;obtain ⟨rfl, rfl, rfl⟩ := H;go_wp2
     go_ret3
     exact ⟨by first | rfl | (simp; done) | (simp [*]; done), by repeat (first | exact qt.refl _ | apply qt.step)⟩
   · replace c6 := Bool.eq_false_iff.mpr c6
     subst c6
     have H1 : (if a0.toList = ([110, 117, 108, 108, 105, 102] : List UInt8) then (some (2, 2, true)) else (if a0.toList = ([115, 117, 98, 115, 116, 114] : List UInt8) then (some (3, 3, true)) else (if a0.toList = ([99, 111, 97, 108, 101, 115, 99, 101] : List UInt8) then (some (1, 16, true)) else (if a0.toList = ([108, 101, 97, 115, 116] : List UInt8) then (some (1, 16, true)) else (if a0.toList = ([103, 114, 101, 97, 116, 101, 115, 116] : List UInt8) then (some (1, 16, true)) else (some (0, 0, false))))))) = some (r1, r2, r3) := by rw [if_neg (show ¬ (false = true) by decide)] at H; exact H
     clear H;have H := H1;clear H1
     by_cases c7 : a0.toList = ([110, 117, 108, 108, 105, 102] : List UInt8)
     · rw [if_pos c7] at H
       have a4 : (a0.toList == ([110, 117, 108, 108, 105, 102] : List UInt8)) = true := beq_iff_eq.mpr c7;have a5 : (a0.toList != ([110, 117, 108, 108, 105, 102] : List UInt8)) = false := bne_eq_false_iff_eq.mpr c7;clear c7;simp only [Option.some.injEq, Prod.mk.injEq] at H;obtain ⟨rfl, rfl, rfl⟩ := H;go_wp2
       go_ret3
       exact ⟨by first | rfl | (simp; done) | (simp [*]; done), by repeat (first | exact qt.refl _ | apply qt.step)⟩
     · rw [if_neg c7] at H
       have a4 : (a0.toList == ([110, 117, 108, 108, 105, 102] : List UInt8)) = false := beq_eq_false_iff_ne.mpr c7;have a5 : (a0.toList != ([110, 117, 108, 108, 105, 102] : List UInt8)) = true := bne_iff_ne.mpr c7
       by_cases c8 : a0.toList = ([115, 117, 98, 115, 116, 114] : List UInt8)
       · rw [if_pos c8] at H
         have a6 : (a0.toList == ([115, 117, 98, 115, 116, 114] : List UInt8)) = true := beq_iff_eq.mpr c8;have a7 : (a0.toList != ([115, 117, 98, 115, 116, 114] : List UInt8)) = false := bne_eq_false_iff_eq.mpr c8;clear c8;simp only [Option.some.injEq, Prod.mk.injEq] at H;obtain ⟨rfl, rfl, rfl⟩ := H;go_wp2
         go_ret3
         exact ⟨by first | rfl | (simp; done) | (simp [*]; done), by repeat (first | exact qt.refl _ | apply qt.step)⟩
       · rw [if_neg c8] at H
         have a6 : (a0.toList == ([115, 117, 98, 115, 116, 114] : List UInt8)) = false := beq_eq_false_iff_ne.mpr c8;have a7 : (a0.toList != ([115, 117, 98, 115, 116, 114] : List UInt8)) = true := bne_iff_ne.mpr c8
         by_cases c9 : a0.toList = ([99, 111, 97, 108, 101, 115, 99, 101] : List UInt8)
         · rw [if_pos c9] at H
           have a8 : (a0.toList == ([99, 111, 97, 108, 101, 115, 99, 101] : List UInt8)) = true := beq_iff_eq.mpr c9;have a9 : (a0.toList != ([99, 111, 97, 108, 101, 115, 99, 101] : List UInt8)) = false := bne_eq_false_iff_eq.mpr c9;clear c9;simp only [Option.some.injEq, Prod.mk.injEq] at H;obtain ⟨rfl, rfl, rfl⟩ := H;go_wp2
           go_ret3
           exact ⟨by first | rfl | (simp; done) | (simp [*]; done), by repeat (first | exact qt.refl _ | apply qt.step)⟩
         · rw [if_neg c9] at H
           have a8 : (a0.toList == ([99, 111, 97, 108, 101, 115, 99, 101] : List UInt8)) = false := beq_eq_false_iff_ne.mpr c9;have a9 : (a0.toList != ([99, 111, 97, 108, 101, 115, 99, 101] : List UInt8)) = true := bne_iff_ne.mpr c9
           by_cases ac : a0.toList = ([108, 101, 97, 115, 116] : List UInt8)
           · rw [if_pos ac] at H
             have az : (a0.toList == ([108, 101, 97, 115, 116] : List UInt8)) = true := beq_iff_eq.mpr ac;have a1 : (a0.toList != ([108, 101, 97, 115, 116] : List UInt8)) = false := bne_eq_false_iff_eq.mpr ac;clear ac;simp only [Option.some.injEq, Prod.mk.injEq] at H;obtain ⟨rfl, rfl, rfl⟩ := H;go_wp2
             go_ret3
             exact ⟨by first | rfl | (simp; done) | (simp [*]; done), by repeat (first | exact qt.refl _ | apply qt.step)⟩
           · rw [if_neg ac] at H
             have az : (a0.toList == ([108, 101, 97, 115, 116] : List UInt8)) = false := beq_eq_false_iff_ne.mpr ac;have a1 : (a0.toList != ([108, 101, 97, 115, 116] : List UInt8)) = true := bne_iff_ne.mpr ac
             by_cases ae : a0.toList = ([103, 114, 101, 97, 116, 101, 115, 116] : List UInt8)
             · rw [if_pos ae] at H
               have a2 : (a0.toList == ([103, 114, 101, 97, 116, 101, 115, 116] : List UInt8)) = true := beq_iff_eq.mpr ae;have a3 : (a0.toList != ([103, 114, 101, 97, 116, 101, 115, 116] : List UInt8)) = false := bne_eq_false_iff_eq.mpr ae;clear ae;simp only [Option.some.injEq, Prod.mk.injEq] at H;obtain ⟨rfl, rfl, rfl⟩ := H;go_wp2
               go_ret3
               exact ⟨by first | rfl | (simp; done) | (simp [*]; done), by repeat (first | exact qt.refl _ | apply qt.step)⟩
             · rw [if_neg ae] at H
               have a2 : (a0.toList == ([103, 114, 101, 97, 116, 101, 115, 116] : List UInt8)) = false := beq_eq_false_iff_ne.mpr ae;have a3 : (a0.toList != ([103, 114, 101, 97, 116, 101, 115, 116] : List UInt8)) = true := bne_iff_ne.mpr ae;simp only [Option.some.injEq, Prod.mk.injEq] at H;obtain ⟨rfl, rfl, rfl⟩ := H;go_wp2
               go_ret3
               exact ⟨by first | rfl | (simp; done) | (simp [*]; done), by repeat (first | exact qt.refl _ | apply qt.step)⟩
end Go.Proofs.YtfmgbgkcmmpcfaaGreatDoor.PTk

