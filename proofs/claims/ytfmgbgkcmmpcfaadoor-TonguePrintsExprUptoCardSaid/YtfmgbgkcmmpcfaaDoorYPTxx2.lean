import Derived.Test.YtfmgbgkcmmpcfaaDoorYPTxx0
namespace Go.Proofs.YtfmgbgkcmmpcfaaDoor.PTx
open Go.RowKit Go.Proofs.YtfmgbgkcmmpcfaaDoorW.PrintWords Go.Proofs.YtfmgbgkcmmpcfaaDoorW.PrintLast Go.Proofs.YtfmgbgkcmmpcfaaDoorW.PrintMore
attribute [local go_sem] zu zC
set_option linter.unusedVariables false
set_option linter.unusedSimpArgs false
def zv.f (a0 : ByteArray) : Option (Bool) := if a0.toList = ([] : List UInt8) then (some false) else (some (decide ((a0.size : Int) ≤ 32)))
set_option maxHeartbeats 8000000 in
set_option maxRecDepth 100000 in
theorem zv.calls (a0 : ByteArray) (r : Bool) (w : World) (h : zv.f a0 = some r) :
 Calls Tryd.prog 37 #[.string a0] w fun e w' => e = .returned (.bool r) ∧ qB w w' := by
 have H : (if a0.toList = ([] : List UInt8) then (some false) else (some (decide ((a0.size : Int) ≤ 32)))) = some r := h;clear h
 by_cases c2 : a0.toList = ([] : List UInt8)
 · rw [if_pos c2] at H
   have ab : (a0.toList == ([] : List UInt8)) = true := beq_iff_eq.mpr c2;have ac : (a0.toList != ([] : List UInt8)) = false := bne_eq_false_iff_eq.mpr c2;clear c2;obtain rfl := Option.some.inj H
   go_enter Tryd.func37, Tryd.ntmps37
   go_wp2
   go_ret
   exact ⟨by first | rfl | (simp; done) | (simp [*]; done), by repeat (first | exact qB.refl _ | apply qB.step)⟩
 · rw [if_neg c2] at H
   have ab : (a0.toList == ([] : List UInt8)) = false := beq_eq_false_iff_ne.mpr c2;have ac : (a0.toList != ([] : List UInt8)) = true := bne_iff_ne.mpr c2;obtain rfl := Option.some.inj H
   go_enter Tryd.func37, Tryd.ntmps37
   go_wp2
   go_ret
   exact ⟨by first | rfl | (simp; done) | (simp [*]; done), by repeat (first | exact qB.refl _ | apply qB.step)⟩
def tongue_holds.j0 : Nat → Bool → Int → Int → Int → ByteArray → Option (Bool)
 | 0, _, _, _, _, _ => none
 | k + 1, ag, aa, ae, af, ab => if ag = true then (some false) else (if aa = 2 then (some (decide ((ab.size : Int) ≤ 4096))) else (if aa = 6 then ((zv.f ab).bind fun ac => (some ac)) else (if aa = 29 then (some true) else (some (ab.toList == ([] : List UInt8))))))
def tongue_holds.f (k : Nat) (ab : Int) (ac : Int) (aa : Int) (ae : ByteArray) : Option (Bool) := if aa < 0 then (tongue_holds.j0 k true ab ac aa ae) else (if aa > 0 then (tongue_holds.j0 k (ab != 1) ab ac aa ae) else (tongue_holds.j0 k false ab ac aa ae))
set_option maxHeartbeats 8000000 in
set_option maxRecDepth 100000 in
theorem tongue_holds.calls (k : Nat) (ac : Int) (ag : Int) (ae : Int) (af : ByteArray) (r : Bool) (w : World) (h : tongue_holds.f k ac ag ae af = some r) :
 Calls Tryd.prog 26 #[.agg #[.int .i64 ac, .int .i64 ag, .int .i64 ae, .string af]] w fun e w' => e = .returned (.bool r) ∧ Below w.heap.size w w' := by
 have cy := Tryd.underlying31;have HB := Aside0.mk (Below.refl w.heap.size w);have H : (if ae < 0 then (tongue_holds.j0 k true ac ag ae af) else (if ae > 0 then (tongue_holds.j0 k (ac != 1) ac ag ae af) else (tongue_holds.j0 k false ac ag ae af))) = some r := h;clear h;have au := Aside0.mk H;clear H
 go_enter Tryd.func26, Tryd.ntmps26
 go_upto_region 1 with (first | ((with_reducible refine qP (N := 1) rfl ?_); refine qM ?hg (N := 1) ?hd (cs := #[.int .i64 ac, .int .i64 ag, .int .i64 ae, .string af]) (t := 31) ?hr ?_; (case hd => rfl); (case hg => rfl); (case hr => first | (go_simp; done) | (go_simp; rfl)); intro ab hg w3 hbox hb; have aa := Aside0.mk (hbox); have cx := Aside0.mk ((by rw [hg]; exact (qt (by repeat (first | (with_reducible first | exact HB.out | apply qa | apply q8 | apply qb) | exact HB.out))) : w.heap.size ≤ ab)); have ah := Aside0.mk ((by rw [hg]; exact (qt (by repeat (first | (with_reducible first | exact HB.out | apply qa | apply q8 | apply qb) | exact HB.out))) : w.heap.size ≤ ab)); replace HB := Aside0.mk (qk (by repeat (first | (with_reducible first | exact HB.out | apply qa | apply q8 | apply qb) | exact HB.out)) hb); clear hb hbox hg))
 (try simp only [Act.put, List.setIfInBounds_toArray, List.set_cons_zero, List.set_cons_succ])
 go_cut [15] (fun cv wc => ∃ (kq : Nat) (ak : Bool), cv = .bool ak ∧ Aside0 (tongue_holds.j0 kq ak ac ag ae af = some r) ∧ Aside0 (kq ≤ k) ∧ Aside0 (wc.heap[ab]? = some (.cells #[.int .i64 ac, .int .i64 ag, .int .i64 ae, .string af] 31 (0, 0))) ∧ Aside0 (Below w.heap.size w wc))
 case first =>
  have H := au.out;clear au
  by_cases c4 : ae < 0
  · rw [if_pos c4] at H
    have ai : decide (ae < 0) = true := decide_eq_true c4;clear c4
    (first | rw [ai] | (simp only [qC, qD]; rw [ai]) | skip)
    have H' := Aside0.mk H;clear H;have av : w3.cell? ⟨ab, 0, none⟩ = some (.int .i64 ac) := (q9 aa.out 0).trans rfl;have aw : w3.cell? ⟨ab, 1, none⟩ = some (.int .i64 ag) := (q9 aa.out 1).trans rfl;have ax : w3.cell? ⟨ab, 2, none⟩ = some (.int .i64 ae) := (q9 aa.out 2).trans rfl;have ay : w3.cell? ⟨ab, 3, none⟩ = some (.string af) := (q9 aa.out 3).trans rfl;have az := qc aa.out 0;have a0 := qc aa.out 1;have a1 := qc aa.out 2;have a2 := qc aa.out 3;go_wp2;go_meet
    case rel => exact ⟨_, (true), (by first | rfl | (simp; done) | (simp [*]; done)), H', ⟨by first | omega | exact Nat.le_refl _⟩, ⟨by (with_reducible repeat (first | refine qe ?_ _ | refine qg ?_ | refine qd ?_ _)); exact aa.out⟩, ⟨by repeat (first | (with_reducible first | exact HB.out | apply qa | apply q8 | apply qb | refine qf ?_ ah.out) | exact HB.out)⟩⟩
  · rw [if_neg c4] at H
    have ai : decide (ae < 0) = false := decide_eq_false c4;clear c4
    (first | rw [ai] | (simp only [qC, qD]; rw [ai]) | skip)
    by_cases c6 : ae > 0
    · rw [if_pos c6] at H
      have a3 : decide (0 < ae) = true := decide_eq_true c6;clear c6;have H' := Aside0.mk H;clear H;have a4 : w3.cell? ⟨ab, 0, none⟩ = some (.int .i64 ac) := (q9 aa.out 0).trans rfl;have a5 : w3.cell? ⟨ab, 1, none⟩ = some (.int .i64 ag) := (q9 aa.out 1).trans rfl;have a6 : w3.cell? ⟨ab, 2, none⟩ = some (.int .i64 ae) := (q9 aa.out 2).trans rfl;have a7 : w3.cell? ⟨ab, 3, none⟩ = some (.string af) := (q9 aa.out 3).trans rfl;have a8 := qc aa.out 0;have a9 := qc aa.out 1;have ba := qc aa.out 2;have bb := qc aa.out 3;go_wp2;go_meet
      case rel => exact ⟨_, ((ac != 1)), (by first | rfl | (simp; done) | (simp [*]; done)), H', ⟨by first | omega | exact Nat.le_refl _⟩, ⟨by (with_reducible repeat (first | refine qe ?_ _ | refine qg ?_ | refine qd ?_ _)); exact aa.out⟩, ⟨by repeat (first | (with_reducible first | exact HB.out | apply qa | apply q8 | apply qb | refine qf ?_ ah.out) | exact HB.out)⟩⟩
    · rw [if_neg c6] at H
      have a3 : decide (0 < ae) = false := decide_eq_false c6;clear c6;have H' := Aside0.mk H;clear H;have bc : w3.cell? ⟨ab, 0, none⟩ = some (.int .i64 ac) := (q9 aa.out 0).trans rfl;have bd : w3.cell? ⟨ab, 1, none⟩ = some (.int .i64 ag) := (q9 aa.out 1).trans rfl;have bf : w3.cell? ⟨ab, 2, none⟩ = some (.int .i64 ae) := (q9 aa.out 2).trans rfl;have bg : w3.cell? ⟨ab, 3, none⟩ = some (.string af) := (q9 aa.out 3).trans rfl;have bh := qc aa.out 0;have bi := qc aa.out 1;have bj := qc aa.out 2;have bk := qc aa.out 3;go_wp2;go_meet
      case rel => exact ⟨_, (false), (by first | rfl | (simp; done) | (simp [*]; done)), H', ⟨by first | omega | exact Nat.le_refl _⟩, ⟨by (with_reducible repeat (first | refine qe ?_ _ | refine qg ?_ | refine qd ?_ _)); exact aa.out⟩, ⟨by repeat (first | (with_reducible first | exact HB.out | apply qa | apply q8 | apply qb | refine qf ?_ ah.out) | exact HB.out)⟩⟩
 case rest =>
  clear au
  (try clear c2); (try clear p2); (try clear c4); (try clear ai); (try clear c6); (try clear a3); (try clear av); (try clear aw); (try clear ax); (try clear ay); (try clear a4); (try clear a5); (try clear a6); (try clear a7); (try clear bc); (try clear bd); (try clear bf); (try clear bg); (try clear az); (try clear a0); (try clear a1); (try clear a2); (try clear a8); (try clear a9); (try clear ba); (try clear bb); (try clear bh); (try clear bi); (try clear bj); (try clear bk)
  obtain ⟨kq, ak, rfl, HA, cz, aa, HB⟩ := hcut
  cases kq with
  | zero => exact absurd HA.out (by simp [tongue_holds.j0])
  | succ c5 =>
   have H := HA.out;clear HA;simp only [tongue_holds.j0] at H
   by_cases c9 : ak = true
   · subst c9
     have H1 : (some false) = some r := by rw [if_pos rfl] at H; exact H
     clear H;have H := H1;clear H1;obtain rfl := Option.some.inj H;go_wp2
     go_ret
     exact ⟨by first | rfl | (simp [qq, qr] <;> rfl) | (simp [*, qq, qr] <;> rfl), by repeat (first | (with_reducible first | exact HB.out | apply qa | apply q8 | apply qb | refine qf ?_ ah.out) | exact HB.out)⟩
   · replace c9 := Bool.eq_false_iff.mpr c9
     subst c9
     have H1 : (if ac = 2 then (some (decide ((af.size : Int) ≤ 4096))) else (if ac = 6 then ((zv.f af).bind fun ao => (some ao)) else (if ac = 29 then (some true) else (some (af.toList == ([] : List UInt8)))))) = some r := by rw [if_neg (show ¬ (false = true) by decide)] at H; exact H
     clear H;have H := H1;clear H1
     by_cases al : ac = 2
     · rw [if_pos al] at H
       have bo : (ac == 2) = true := beq_iff_eq.mpr al;have bp : (ac != 2) = false := bne_eq_false_iff_eq.mpr al;clear al;obtain rfl := Option.some.inj H;have bv : wc.cell? ⟨ab, 0, none⟩ = some (.int .i64 ac) := (q9 aa.out 0).trans rfl;have bw : wc.cell? ⟨ab, 1, none⟩ = some (.int .i64 ag) := (q9 aa.out 1).trans rfl;have bz : wc.cell? ⟨ab, 2, none⟩ = some (.int .i64 ae) := (q9 aa.out 2).trans rfl;have b0 : wc.cell? ⟨ab, 3, none⟩ = some (.string af) := (q9 aa.out 3).trans rfl;have b1 := qc aa.out 0;have b2 := qc aa.out 1;have b3 := qc aa.out 2;have b4 := qc aa.out 3;go_wp2
       go_ret
       exact ⟨by first | rfl | (simp [qq, qr] <;> rfl) | (simp [*, qq, qr] <;> rfl), by repeat (first | (with_reducible first | exact HB.out | apply qa | apply q8 | apply qb | refine qf ?_ ah.out) | exact HB.out)⟩
     · rw [if_neg al] at H
       have bo : (ac == 2) = false := beq_eq_false_iff_ne.mpr al;have bp : (ac != 2) = true := bne_iff_ne.mpr al
       by_cases am : ac = 6
       · rw [if_pos am] at H
         have bq : (ac == 6) = true := beq_iff_eq.mpr am;have br : (ac != 6) = false := bne_eq_false_iff_eq.mpr am;clear am;replace H := Option.bind_eq_some_iff.mp H;obtain ⟨ao, bm, H⟩ := H;replace H : (some ao) = some r := H;have cw := Aside0.mk bm;clear bm;obtain rfl := Option.some.inj H;have b5 : wc.cell? ⟨ab, 0, none⟩ = some (.int .i64 ac) := (q9 aa.out 0).trans rfl;have b6 : wc.cell? ⟨ab, 1, none⟩ = some (.int .i64 ag) := (q9 aa.out 1).trans rfl;have b7 : wc.cell? ⟨ab, 2, none⟩ = some (.int .i64 ae) := (q9 aa.out 2).trans rfl;have b8 : wc.cell? ⟨ab, 3, none⟩ = some (.string af) := (q9 aa.out 3).trans rfl;have b9 := qc aa.out 0;have ca := qc aa.out 1;have cb := qc aa.out 2;have cc := qc aa.out 3
         go_wp2_with (first | ((with_reducible refine qG (f := 37) rfl ?_); refine zc (some 28) rfl rfl Tryd.func37 (by kernel_rfl) rfl #[.string af] rfl (by (try simp only [List.map_toArray, List.map_cons, List.map_nil]); first | done | rfl | (simp only [List.length_drop, List.length_take]; rfl)) ?_; (with_reducible refine (zv.calls af ao _ cw.out).mono ?_); rintro e w' ⟨rfl, ⟨nd, rfl⟩⟩; refine ⟨_, rfl, ?_⟩))
         go_ret
         exact ⟨by first | rfl | (simp [qq, qr] <;> rfl) | (simp [*, qq, qr] <;> rfl), by repeat (first | (with_reducible first | exact HB.out | apply qa | apply q8 | apply qb | refine qf ?_ ah.out) | exact HB.out)⟩
       · rw [if_neg am] at H
         have bq : (ac == 6) = false := beq_eq_false_iff_ne.mpr am;have br : (ac != 6) = true := bne_iff_ne.mpr am
         by_cases an : ac = 29
         · rw [if_pos an] at H
           have bs : (ac == 29) = true := beq_iff_eq.mpr an;have bu : (ac != 29) = false := bne_eq_false_iff_eq.mpr an;clear an;obtain rfl := Option.some.inj H;have cd : wc.cell? ⟨ab, 0, none⟩ = some (.int .i64 ac) := (q9 aa.out 0).trans rfl;have ce : wc.cell? ⟨ab, 1, none⟩ = some (.int .i64 ag) := (q9 aa.out 1).trans rfl;have cf : wc.cell? ⟨ab, 2, none⟩ = some (.int .i64 ae) := (q9 aa.out 2).trans rfl;have cg : wc.cell? ⟨ab, 3, none⟩ = some (.string af) := (q9 aa.out 3).trans rfl;have ch := qc aa.out 0;have ci := qc aa.out 1;have cj := qc aa.out 2;have ck := qc aa.out 3;go_wp2
           go_ret
           exact ⟨by first | rfl | (simp [qq, qr] <;> rfl) | (simp [*, qq, qr] <;> rfl), by repeat (first | (with_reducible first | exact HB.out | apply qa | apply q8 | apply qb | refine qf ?_ ah.out) | exact HB.out)⟩
         · rw [if_neg an] at H
           have bs : (ac == 29) = false := beq_eq_false_iff_ne.mpr an;have bu : (ac != 29) = true := bne_iff_ne.mpr an;obtain rfl := Option.some.inj H;have cm : wc.cell? ⟨ab, 0, none⟩ = some (.int .i64 ac) := (q9 aa.out 0).trans rfl;have cn : wc.cell? ⟨ab, 1, none⟩ = some (.int .i64 ag) := (q9 aa.out 1).trans rfl;have co : wc.cell? ⟨ab, 2, none⟩ = some (.int .i64 ae) := (q9 aa.out 2).trans rfl;have cp : wc.cell? ⟨ab, 3, none⟩ = some (.string af) := (q9 aa.out 3).trans rfl;have cq := qc aa.out 0;have cr := qc aa.out 1;have ct := qc aa.out 2;have cu := qc aa.out 3;go_wp2
           go_ret
           exact ⟨by first | rfl | (simp [qq, qr] <;> rfl) | (simp [*, qq, qr] <;> rfl), by repeat (first | (with_reducible first | exact HB.out | apply qa | apply q8 | apply qb | refine qf ?_ ah.out) | exact HB.out)⟩
def qY.l0 : Nat → Int → List (S116) → Int → Int → Option (ByteArray)
 | 0, _, _, _, _ => none
 | k + 1, x1, x7, x8, x9 => if x9 < x8 then (if 0 ≤ x9 then (if x9 < (x7.length : Int) then (if ((xE x7 x9).f1) = x1 then (some ((xE x7 x9).f0)) else (qY.l0 k x1 x7 x8 (wrap64 (x9 + 1)))) else (none)) else (none)) else (some (⟨#[]⟩ : ByteArray))
def qY.f (k : Nat) (l0 : List (S116)) (a1 : Int) : Option (ByteArray) := qY.l0 k a1 l0 (l0.length : Int) 0
set_option maxHeartbeats 8000000 in
set_option maxRecDepth 100000 in
theorem qY.calls (k : Nat) (A0 : Option Addr) (c0 : Nat) (l0 : List (S116)) (a1 : Int) (r : ByteArray) (w : World) (ap : Kd.C k116 w A0 l0.length l0) (au : l0.length ≤ c0) (h : qY.f k l0 a1 = some r) :
 Calls Tryd.prog 54 #[.slice A0 l0.length c0, .int .i64 a1] w fun e w' => e = .returned (.string r) ∧ Below w.heap.size w w' := by
 have bc := Tryd.underlying116;have av := Aside0.mk ap;have bi := Aside0.mk au;clear ap au;have HB := Aside0.mk (Below.refl w.heap.size w);have H : (qY.l0 k a1 l0 (l0.length : Int) 0) = some r := h;clear h;have H' := Aside0.mk H;clear H
 go_enter Tryd.func54, Tryd.ntmps54
 go_wp2
 go_loopg [9] k (fun kq v9 w' => ∃ (aa : Int), v9 = .int .i64 aa ∧ Aside0 (qY.l0 kq a1 l0 (l0.length : Int) aa = some r) ∧ Aside0 (kq ≤ k) ∧ Aside0 (Below w.heap.size w w'))
 case atStart => exact ⟨(0), (by first | rfl | (simp; done) | (simp [*]; done)), H', ⟨Nat.le_refl _⟩, ⟨by repeat (first | (with_reducible first | exact HB.out | apply qa | apply q8 | apply qb) | exact HB.out)⟩⟩
 case round =>
  clear H'
  (try clear p2)
  obtain ⟨aa, rfl, HA, aw, HB⟩ := hrel
  cases gk with
  | zero => exact absurd HA.out (by simp [qY.l0])
  | succ k1 =>
   have H := HA.out;clear HA;simp only [qY.l0] at H
   by_cases c3 : aa < (l0.length : Int)
   · rw [if_pos c3] at H
     have ax : decide (aa < (l0.length : Int)) = true := decide_eq_true c3;clear c3
     by_cases c4 : 0 ≤ aa
     · rw [if_pos c4] at H
       have bg : decide (0 ≤ aa) = true := decide_eq_true c4;clear c4
       by_cases c5 : aa < (l0.length : Int)
       · rw [if_pos c5] at H
         have bh : decide (aa < (l0.length : Int)) = true := decide_eq_true c5;clear c5
         by_cases c6 : ((xE l0 aa).f1) = a1
         · rw [if_pos c6] at H
           have ay : (((xE l0 aa).f1) == a1) = true := beq_iff_eq.mpr c6;have az : (((xE l0 aa).f1) != a1) = false := bne_eq_false_iff_eq.mpr c6;clear c6;obtain rfl := Option.some.inj H;have ag : 0 ≤ (aa : Int) := of_decide_eq_true (by first | (with_reducible assumption) | assumption);have ah : aa < (l0.length : Int) := of_decide_eq_true (by first | (with_reducible assumption) | assumption);obtain ⟨an, al, ab, ac⟩ := at_T116 av.out aa ag ah;cases al;replace ab := (HB.out.cell (World.block_lt_of_cell? w _ ab)).trans ab;replace ac := (HB.out.cell (World.block_lt_of_cell? w _ ac)).trans ac;replace ag := eq_true ag;replace ah := eq_true ah
           go_wp2_with (first | ((with_reducible refine qP (N := 6) rfl ?_); refine qM ?hg (N := 6) ?hd (cs := #[.string (⟨#[]⟩ : ByteArray), .int .i64 0]) (t := 116) ?hr ?_; (case hd => rfl); (case hg => rfl); (case hr => first | (go_simp; done) | (go_simp; rfl)); intro ae hg w7 hbox hb; have af := Aside0.mk (hbox); have ao := Aside0.mk ((by rw [hg]; exact (qt (by repeat (first | (with_reducible first | exact HB.out | apply qa | apply q8 | apply qb) | exact HB.out))) : w.heap.size ≤ ae)); have aj := Aside0.mk ((by rw [hg]; exact (qt (by repeat (first | (with_reducible first | exact HB.out | apply qa | apply q8 | apply qb) | exact HB.out))) : w.heap.size ≤ ae)); replace HB := Aside0.mk (qk (by repeat (first | (with_reducible first | exact HB.out | apply qa | apply q8 | apply qb) | exact HB.out)) hb); clear hb hbox hg; have a7 : w7.cell? ⟨ae, 0, none⟩ = some (.string (⟨#[]⟩ : ByteArray)) := (q9 af.out 0).trans rfl; have a8 : w7.cell? ⟨ae, 1, none⟩ = some (.int .i64 0) := (q9 af.out 1).trans rfl; have a9 := qc af.out 0; have ba := qc af.out 1))
           go_ret
           exact ⟨by first | rfl | (simp [qq, qr] <;> rfl) | (simp [*, qq, qr] <;> rfl), by repeat (first | (with_reducible first | exact HB.out | apply qa | apply q8 | apply qb | refine qf ?_ aj.out) | exact HB.out)⟩
         · rw [if_neg c6] at H
           have ay : (((xE l0 aa).f1) == a1) = false := beq_eq_false_iff_ne.mpr c6;have az : (((xE l0 aa).f1) != a1) = true := bne_iff_ne.mpr c6;have H' := Aside0.mk H;clear H;have ag : 0 ≤ (aa : Int) := of_decide_eq_true (by first | (with_reducible assumption) | assumption);have ah : aa < (l0.length : Int) := of_decide_eq_true (by first | (with_reducible assumption) | assumption);obtain ⟨an, al, ab, ac⟩ := at_T116 av.out aa ag ah;cases al;replace ab := (HB.out.cell (World.block_lt_of_cell? w _ ab)).trans ab;replace ac := (HB.out.cell (World.block_lt_of_cell? w _ ac)).trans ac;replace ag := eq_true ag;replace ah := eq_true ah
           go_wp2_with (first | ((with_reducible refine qP (N := 6) rfl ?_); refine qM ?hg (N := 6) ?hd (cs := #[.string (⟨#[]⟩ : ByteArray), .int .i64 0]) (t := 116) ?hr ?_; (case hd => rfl); (case hg => rfl); (case hr => first | (go_simp; done) | (go_simp; rfl)); intro ae hg w9 hbox hb; have af := Aside0.mk (hbox); have ao := Aside0.mk ((by rw [hg]; exact (qt (by repeat (first | (with_reducible first | exact HB.out | apply qa | apply q8 | apply qb) | exact HB.out))) : w.heap.size ≤ ae)); have aj := Aside0.mk ((by rw [hg]; exact (qt (by repeat (first | (with_reducible first | exact HB.out | apply qa | apply q8 | apply qb) | exact HB.out))) : w.heap.size ≤ ae)); replace HB := Aside0.mk (qk (by repeat (first | (with_reducible first | exact HB.out | apply qa | apply q8 | apply qb) | exact HB.out)) hb); clear hb hbox hg; have a0 : w9.cell? ⟨ae, 0, none⟩ = some (.string (⟨#[]⟩ : ByteArray)) := (q9 af.out 0).trans rfl; have a2 : w9.cell? ⟨ae, 1, none⟩ = some (.int .i64 0) := (q9 af.out 1).trans rfl; have a3 := qc af.out 0; have a4 := qc af.out 1))
           go_roundg k1
           case measure => have := aw.out; omega
           case rel => exact ⟨(wrap64 (aa + 1)), (by first | rfl | (simp; done) | (simp [*]; done)), H', ⟨by have := aw.out; omega⟩, ⟨by repeat (first | (with_reducible first | exact HB.out | apply qa | apply q8 | apply qb | refine qf ?_ aj.out) | exact HB.out)⟩⟩
       · rw [if_neg c5] at H
         exact absurd H (by simp)
     · rw [if_neg c4] at H
       exact absurd H (by simp)
   · rw [if_neg c3] at H
     have ax : decide (aa < (l0.length : Int)) = false := decide_eq_false c3;clear c3;obtain rfl := Option.some.inj H;go_wp2
     go_ret
     exact ⟨by first | rfl | (simp [qq, qr] <;> rfl) | (simp [*, qq, qr] <;> rfl), by repeat (first | (with_reducible first | exact HB.out | apply qa | apply q8 | apply qb) | exact HB.out)⟩
def zn.f  : Option ((List (S116))) := some (([(⟨(⟨#[61]⟩ : ByteArray), 17⟩ : S116), (⟨(⟨#[60, 62]⟩ : ByteArray), 18⟩ : S116), (⟨(⟨#[60]⟩ : ByteArray), 19⟩ : S116), (⟨(⟨#[60, 61]⟩ : ByteArray), 20⟩ : S116), (⟨(⟨#[62]⟩ : ByteArray), 21⟩ : S116), (⟨(⟨#[62, 61]⟩ : ByteArray), 22⟩ : S116), (⟨(⟨#[124, 124]⟩ : ByteArray), 16⟩ : S116), (⟨(⟨#[43]⟩ : ByteArray), 11⟩ : S116), (⟨(⟨#[45]⟩ : ByteArray), 12⟩ : S116), (⟨(⟨#[42]⟩ : ByteArray), 13⟩ : S116), (⟨(⟨#[47]⟩ : ByteArray), 14⟩ : S116), (⟨(⟨#[37]⟩ : ByteArray), 15⟩ : S116)] : List (S116)))
set_option maxHeartbeats 8000000 in
set_option maxRecDepth 100000 in
theorem zn.calls  (r : List (S116)) (w : World) (h : zn.f  = some r) :
 Calls Tryd.prog 55 #[] w fun e w' => ∃ v0_ : Value, e = .returned (v0_) ∧ Kd.R k116 116 w' w.heap.size (fun _ => True) v0_ r ∧ Below w.heap.size w w' := by
 have ag := Tryd.underlying116;have HB := Aside0.mk (Below.refl w.heap.size w);have H : (some (([(⟨(⟨#[61]⟩ : ByteArray), 17⟩ : S116), (⟨(⟨#[60, 62]⟩ : ByteArray), 18⟩ : S116), (⟨(⟨#[60]⟩ : ByteArray), 19⟩ : S116), (⟨(⟨#[60, 61]⟩ : ByteArray), 20⟩ : S116), (⟨(⟨#[62]⟩ : ByteArray), 21⟩ : S116), (⟨(⟨#[62, 61]⟩ : ByteArray), 22⟩ : S116), (⟨(⟨#[124, 124]⟩ : ByteArray), 16⟩ : S116), (⟨(⟨#[43]⟩ : ByteArray), 11⟩ : S116), (⟨(⟨#[45]⟩ : ByteArray), 12⟩ : S116), (⟨(⟨#[42]⟩ : ByteArray), 13⟩ : S116), (⟨(⟨#[47]⟩ : ByteArray), 14⟩ : S116), (⟨(⟨#[37]⟩ : ByteArray), 15⟩ : S116)] : List (S116)))) = some r := h;clear h;obtain ⟨af, aa⟩ : ∃ y_ : List (S116), y_ = (([(⟨(⟨#[61]⟩ : ByteArray), 17⟩ : S116), (⟨(⟨#[60, 62]⟩ : ByteArray), 18⟩ : S116), (⟨(⟨#[60]⟩ : ByteArray), 19⟩ : S116), (⟨(⟨#[60, 61]⟩ : ByteArray), 20⟩ : S116), (⟨(⟨#[62]⟩ : ByteArray), 21⟩ : S116), (⟨(⟨#[62, 61]⟩ : ByteArray), 22⟩ : S116), (⟨(⟨#[124, 124]⟩ : ByteArray), 16⟩ : S116), (⟨(⟨#[43]⟩ : ByteArray), 11⟩ : S116), (⟨(⟨#[45]⟩ : ByteArray), 12⟩ : S116), (⟨(⟨#[42]⟩ : ByteArray), 13⟩ : S116), (⟨(⟨#[47]⟩ : ByteArray), 14⟩ : S116), (⟨(⟨#[37]⟩ : ByteArray), 15⟩ : S116)] : List (S116))) := ⟨_, rfl⟩
 replace H : (some af) = some r := by first | (rw [aa]; with_reducible exact H) | (have H2_ := (Option.bind_some _ _).symm.trans H; rw [aa]; with_reducible exact H2_) | (have H2_ := (Option.bind_some _ _).symm.trans H; with_reducible exact H2_) | with_reducible exact H | (rw [aa]; exact H) | exact H
 have ac := Aside0.mk aa;clear aa;obtain rfl := Option.some.inj H
 go_enter Tryd.func55, Tryd.ntmps55
 go_wp2_with (first | ((with_reducible refine qP (N := 13) rfl ?_); refine Kd.R_lit k116 _ 116 ?hg (N := 13) ?hd (xs := ([(⟨(⟨#[61]⟩ : ByteArray), 17⟩ : S116), (⟨(⟨#[60, 62]⟩ : ByteArray), 18⟩ : S116), (⟨(⟨#[60]⟩ : ByteArray), 19⟩ : S116), (⟨(⟨#[60, 61]⟩ : ByteArray), 20⟩ : S116), (⟨(⟨#[62]⟩ : ByteArray), 21⟩ : S116), (⟨(⟨#[62, 61]⟩ : ByteArray), 22⟩ : S116), (⟨(⟨#[124, 124]⟩ : ByteArray), 16⟩ : S116), (⟨(⟨#[43]⟩ : ByteArray), 11⟩ : S116), (⟨(⟨#[45]⟩ : ByteArray), 12⟩ : S116), (⟨(⟨#[42]⟩ : ByteArray), 13⟩ : S116), (⟨(⟨#[47]⟩ : ByteArray), 14⟩ : S116), (⟨(⟨#[37]⟩ : ByteArray), 15⟩ : S116)] : List (S116))) (inner := [.string (⟨#[61]⟩ : ByteArray), .int .i64 17, .string (⟨#[60, 62]⟩ : ByteArray), .int .i64 18, .string (⟨#[60]⟩ : ByteArray), .int .i64 19, .string (⟨#[60, 61]⟩ : ByteArray), .int .i64 20, .string (⟨#[62]⟩ : ByteArray), .int .i64 21, .string (⟨#[62, 61]⟩ : ByteArray), .int .i64 22, .string (⟨#[124, 124]⟩ : ByteArray), .int .i64 16, .string (⟨#[43]⟩ : ByteArray), .int .i64 11, .string (⟨#[45]⟩ : ByteArray), .int .i64 12, .string (⟨#[42]⟩ : ByteArray), .int .i64 13, .string (⟨#[47]⟩ : ByteArray), .int .i64 14, .string (⟨#[37]⟩ : ByteArray), .int .i64 15]) (ok := fun _ => True) (okp := fun _ => True) ?hr ?hp (fun _ hk => hk) trivial (Below.refl _ _) (Nat.le_refl _) (by simp) ?_; (case hd => rfl); (case hg => rfl); (case hr => first | (go_simp; done) | (go_simp; rfl)); (case hp => exact (Reps.c2 (show Kd.M k116 _ _ _ (⟨(⟨#[61]⟩ : ByteArray), 17⟩ : S116) [.string (⟨#[61]⟩ : ByteArray), .int .i64 17] from (xb _ _ _ (⟨(⟨#[61]⟩ : ByteArray), 17⟩ : S116) )) (Reps.c2 (show Kd.M k116 _ _ _ (⟨(⟨#[60, 62]⟩ : ByteArray), 18⟩ : S116) [.string (⟨#[60, 62]⟩ : ByteArray), .int .i64 18] from (xb _ _ _ (⟨(⟨#[60, 62]⟩ : ByteArray), 18⟩ : S116) )) (Reps.c2 (show Kd.M k116 _ _ _ (⟨(⟨#[60]⟩ : ByteArray), 19⟩ : S116) [.string (⟨#[60]⟩ : ByteArray), .int .i64 19] from (xb _ _ _ (⟨(⟨#[60]⟩ : ByteArray), 19⟩ : S116) )) (Reps.c2 (show Kd.M k116 _ _ _ (⟨(⟨#[60, 61]⟩ : ByteArray), 20⟩ : S116) [.string (⟨#[60, 61]⟩ : ByteArray), .int .i64 20] from (xb _ _ _ (⟨(⟨#[60, 61]⟩ : ByteArray), 20⟩ : S116) )) (Reps.c2 (show Kd.M k116 _ _ _ (⟨(⟨#[62]⟩ : ByteArray), 21⟩ : S116) [.string (⟨#[62]⟩ : ByteArray), .int .i64 21] from (xb _ _ _ (⟨(⟨#[62]⟩ : ByteArray), 21⟩ : S116) )) (Reps.c2 (show Kd.M k116 _ _ _ (⟨(⟨#[62, 61]⟩ : ByteArray), 22⟩ : S116) [.string (⟨#[62, 61]⟩ : ByteArray), .int .i64 22] from (xb _ _ _ (⟨(⟨#[62, 61]⟩ : ByteArray), 22⟩ : S116) )) (Reps.c2 (show Kd.M k116 _ _ _ (⟨(⟨#[124, 124]⟩ : ByteArray), 16⟩ : S116) [.string (⟨#[124, 124]⟩ : ByteArray), .int .i64 16] from (xb _ _ _ (⟨(⟨#[124, 124]⟩ : ByteArray), 16⟩ : S116) )) (Reps.c2 (show Kd.M k116 _ _ _ (⟨(⟨#[43]⟩ : ByteArray), 11⟩ : S116) [.string (⟨#[43]⟩ : ByteArray), .int .i64 11] from (xb _ _ _ (⟨(⟨#[43]⟩ : ByteArray), 11⟩ : S116) )) (Reps.c2 (show Kd.M k116 _ _ _ (⟨(⟨#[45]⟩ : ByteArray), 12⟩ : S116) [.string (⟨#[45]⟩ : ByteArray), .int .i64 12] from (xb _ _ _ (⟨(⟨#[45]⟩ : ByteArray), 12⟩ : S116) )) (Reps.c2 (show Kd.M k116 _ _ _ (⟨(⟨#[42]⟩ : ByteArray), 13⟩ : S116) [.string (⟨#[42]⟩ : ByteArray), .int .i64 13] from (xb _ _ _ (⟨(⟨#[42]⟩ : ByteArray), 13⟩ : S116) )) (Reps.c2 (show Kd.M k116 _ _ _ (⟨(⟨#[47]⟩ : ByteArray), 14⟩ : S116) [.string (⟨#[47]⟩ : ByteArray), .int .i64 14] from (xb _ _ _ (⟨(⟨#[47]⟩ : ByteArray), 14⟩ : S116) )) (Reps.c2 (show Kd.M k116 _ _ _ (⟨(⟨#[37]⟩ : ByteArray), 15⟩ : S116) [.string (⟨#[37]⟩ : ByteArray), .int .i64 15] from (xb _ _ _ (⟨(⟨#[37]⟩ : ByteArray), 15⟩ : S116) )) (Reps.none _ _)))))))))))))); intro ah w1 ab hb hg_ hnew_; clear hg_ hnew_; (first | rw [← ac.out] at ab | (simp only [Int.reduceToNat] at ab; rw [← ac.out] at ab)); have ae := Aside0.mk (Kd.R_lower ab (qt (by repeat (first | (with_reducible first | exact HB.out | apply qa | apply q8 | apply qb) | exact HB.out)))); replace HB := Aside0.mk (qk (by repeat (first | (with_reducible first | exact HB.out | apply qa | apply q8 | apply qb) | exact HB.out)) hb); clear hb ab))
 go_ret
 exact ⟨_, by first | rfl | (simp [qq, qr] <;> rfl) | (simp [*, qq, qr] <;> rfl), by (with_reducible repeat (first | apply Kd.R_alloc | apply Kd.R_drewN | apply Kd.R_drew)); exact ae.out, by repeat (first | (with_reducible first | exact HB.out | apply qa | apply q8 | apply qb) | exact HB.out)⟩
mutual
def za.j0 : Nat → Int → Int → Bool → Option (ByteArray × Int)
 | 0, _, _, _ => none
 | k + 1, x0, x4, x9 => if x9 = true then ((zn.f).bind fun t108 => ((qY.f k t108 x0).bind fun t111 => (some (t111, 6)))) else (if x4 = 13 then (za.j1 k x0 x4 (x4 == 13)) else (if x4 = 14 then (za.j1 k x0 x4 (x4 == 14)) else (za.j1 k x0 x4 (x4 == 15))))
def za.j1 : Nat → Int → Int → Bool → Option (ByteArray × Int)
 | 0, _, _, _ => none
 | k + 1, x0, x4, x15 => if x15 = true then ((zn.f).bind fun t112 => ((qY.f k t112 x0).bind fun t115 => (some (t115, 7)))) else (if x4 = 16 then (some ((⟨#[124, 124]⟩ : ByteArray), 5)) else ((zn.f).bind fun t116 => ((qY.f k t116 x0).bind fun t119 => (some (t119, 4)))))
end
def za.f (k : Nat) (a0 : Int) : Option (ByteArray × Int) := if a0 = 23 then (some ((⟨#[65, 78, 68]⟩ : ByteArray), 2)) else (if a0 = 24 then (some ((⟨#[79, 82]⟩ : ByteArray), 1)) else (if a0 = 11 then (za.j0 k a0 a0 (a0 == 11)) else (za.j0 k a0 a0 (a0 == 12))))
set_option maxHeartbeats 8000000 in
set_option maxRecDepth 100000 in
theorem za.calls (k : Nat) (a0 : Int) (r1 : ByteArray) (r2 : Int) (w : World) (h : za.f k a0 = some (r1, r2)) :
 Calls Tryd.prog 39 #[.int .i64 a0] w fun e w' => e = .returned (.tuple #[.string r1, .int .i64 r2]) ∧ Below w.heap.size w w' := by
 have HB := Aside0.mk (Below.refl w.heap.size w);have H : (if a0 = 23 then (some ((⟨#[65, 78, 68]⟩ : ByteArray), 2)) else (if a0 = 24 then (some ((⟨#[79, 82]⟩ : ByteArray), 1)) else (if a0 = 11 then (za.j0 k a0 a0 (a0 == 11)) else (za.j0 k a0 a0 (a0 == 12))))) = some (r1, r2) := h;clear h
 by_cases c2 : a0 = 23
 · rw [if_pos c2] at H
   have a5 : (a0 == 23) = true := beq_iff_eq.mpr c2;have a6 : (a0 != 23) = false := bne_eq_false_iff_eq.mpr c2;clear c2;simp only [Option.some.injEq, Prod.mk.injEq] at H;obtain ⟨rfl, rfl⟩ := H
   go_enter Tryd.func39, Tryd.ntmps39
   go_wp2
   go_ret2
   exact ⟨by first | rfl | (simp [qq, qr] <;> rfl) | (simp [*, qq, qr] <;> rfl), by repeat (first | (with_reducible first | exact HB.out | apply qa | apply q8 | apply qb) | exact HB.out)⟩
 · rw [if_neg c2] at H
   have a5 : (a0 == 23) = false := beq_eq_false_iff_ne.mpr c2;have a6 : (a0 != 23) = true := bne_iff_ne.mpr c2
   by_cases c3 : a0 = 24
   · rw [if_pos c3] at H
     have a7 : (a0 == 24) = true := beq_iff_eq.mpr c3;have a8 : (a0 != 24) = false := bne_eq_false_iff_eq.mpr c3;clear c3;simp only [Option.some.injEq, Prod.mk.injEq] at H;obtain ⟨rfl, rfl⟩ := H
     go_enter Tryd.func39, Tryd.ntmps39
     go_wp2
     go_ret2
     exact ⟨by first | rfl | (simp [qq, qr] <;> rfl) | (simp [*, qq, qr] <;> rfl), by repeat (first | (with_reducible first | exact HB.out | apply qa | apply q8 | apply qb) | exact HB.out)⟩
   · rw [if_neg c3] at H
     have a7 : (a0 == 24) = false := beq_eq_false_iff_ne.mpr c3;have a8 : (a0 != 24) = true := bne_iff_ne.mpr c3;have bg := Aside0.mk H;clear H
     go_enter Tryd.func39, Tryd.ntmps39
     go_upto_if 9 with (fail)
     go_cut [9] (fun v9 wc => ∃ (kq : Nat) (a2 : Bool), v9 = .bool a2 ∧ Aside0 (za.j0 kq a0 a0 a2 = some (r1, r2)) ∧ Aside0 (kq ≤ k) ∧ Aside0 (Below w.heap.size w wc))
     case first =>
      have H := bg.out;clear bg
      by_cases c5 : a0 = 11
      · rw [if_pos c5] at H
        have af : (a0 == 11) = true := beq_iff_eq.mpr c5;have a9 : (a0 != 11) = false := bne_eq_false_iff_eq.mpr c5;clear c5
        (first | rw [af] | (simp only [qC, qD]; rw [af]) | skip)
        have H' := Aside0.mk H;clear H;go_wp2;go_meet
        case rel => exact ⟨_, ((a0 == 11)), (by first | rfl | (simp; done) | (simp [*]; done)), H', ⟨by first | omega | exact Nat.le_refl _⟩, ⟨by repeat (first | (with_reducible first | exact HB.out | apply qa | apply q8 | apply qb) | exact HB.out)⟩⟩
      · rw [if_neg c5] at H
        have af : (a0 == 11) = false := beq_eq_false_iff_ne.mpr c5;have a9 : (a0 != 11) = true := bne_iff_ne.mpr c5
        (first | rw [af] | (simp only [qC, qD]; rw [af]) | skip)
        have H' := Aside0.mk H;clear H;go_wp2;go_meet
        case rel => exact ⟨_, ((a0 == 12)), (by first | rfl | (simp; done) | (simp [*]; done)), H', ⟨by first | omega | exact Nat.le_refl _⟩, ⟨by repeat (first | (with_reducible first | exact HB.out | apply qa | apply q8 | apply qb) | exact HB.out)⟩⟩
     case rest =>
      clear bg
      (try clear c2); (try clear a5); (try clear a6); (try clear p2); (try clear c3); (try clear a7); (try clear a8); (try clear c5); (try clear af); (try clear a9)
      obtain ⟨kq, a2, rfl, HA, bh, HB⟩ := hcut
      cases kq with
      | zero => exact absurd HA.out (by simp [za.j0])
      | succ ay =>
       have H := HA.out;clear HA;simp only [za.j0] at H
       by_cases c6 : a2 = true
       · subst c6
         have H1 : ((zn.f).bind fun ak => ((qY.f ay ak a0).bind fun al => (some (al, 6)))) = some (r1, r2) := by rw [if_pos rfl] at H; exact H
         clear H;have H := H1;clear H1;replace H := Option.bind_eq_some_iff.mp H;obtain ⟨ak, bp, H⟩ := H;replace H : ((qY.f ay ak a0).bind fun al => (some (al, 6))) = some (r1, r2) := H;have A7 := Aside0.mk bp;clear bp;replace H := Option.bind_eq_some_iff.mp H;obtain ⟨al, bq, H⟩ := H;replace H : (some (al, 6)) = some (r1, r2) := H;have A8 := Aside0.mk bq;clear bq;simp only [Option.some.injEq, Prod.mk.injEq] at H;obtain ⟨rfl, rfl⟩ := H
         go_wp2_with (first | ((with_reducible refine qG (f := 55) rfl ?_); refine zc (some 12) rfl rfl Tryd.func55 (by kernel_rfl) rfl #[] rfl (by (try simp only [List.map_toArray, List.map_cons, List.map_nil]); first | done | rfl | (simp only [List.length_drop, List.length_take]; rfl)) ?_; (with_reducible refine (zn.calls  ak _ A7.out).mono ?_); rintro e w9 ⟨cb, rfl, av, hb⟩; refine ⟨_, rfl, ?_⟩; have ag := Aside0.mk (Kd.R_lower av (qt (by repeat (first | (with_reducible first | exact HB.out | apply qa | apply q8 | apply qb) | exact HB.out)))); replace HB := Aside0.mk (qk (by repeat (first | (with_reducible first | exact HB.out | apply qa | apply q8 | apply qb) | exact HB.out)) hb); (try clear hb); (try clear a4); (try clear hk); (try clear hi); (try clear av); obtain ⟨br, bs, bu⟩ := Kd.R_slice ag.out; subst bu) | ((with_reducible refine qG (f := 54) rfl ?_); refine zc (some 14) rfl rfl Tryd.func54 (by kernel_rfl) rfl #[.slice br ak.length bs, .int .i64 a0] rfl (by (try simp only [List.map_toArray, List.map_cons, List.map_nil]); first | done | rfl | (simp only [List.length_drop, List.length_take]; rfl)) ?_; (with_reducible refine (qY.calls ay _ _ ak a0 al _ ?side1 ?side2 A8.out).mono ?_); (case side1 => repeat (first | exact (Kd.R_reads' ag.out).2.2 | (with_reducible refine Kd.C_alloc ?_ _) | (with_reducible refine Kd.C_drewN ?_ _) | (with_reducible refine Kd.C_drew ?_))); (case side2 => exact (Kd.R_reads' ag.out).2.1); rintro e cf ⟨rfl, hb⟩; refine ⟨_, rfl, ?_⟩; replace ag := Aside0.mk (Kd.R_below (by (with_reducible repeat (first | apply Kd.R_alloc | apply Kd.R_drewN | apply Kd.R_drew)); exact ag.out) hb); replace HB := Aside0.mk (qk (by repeat (first | (with_reducible first | exact HB.out | apply qa | apply q8 | apply qb) | exact HB.out)) hb); (try clear hb); (try clear a4); (try clear hk); (try clear hi)))
         go_ret2
         exact ⟨by first | rfl | (simp [qq, qr] <;> rfl) | (simp [*, qq, qr] <;> rfl), by repeat (first | (with_reducible first | exact HB.out | apply qa | apply q8 | apply qb) | exact HB.out)⟩
       · replace c6 := Bool.eq_false_iff.mpr c6
         subst c6
         have H1 : (if a0 = 13 then (za.j1 ay a0 a0 (a0 == 13)) else (if a0 = 14 then (za.j1 ay a0 a0 (a0 == 14)) else (za.j1 ay a0 a0 (a0 == 15)))) = some (r1, r2) := by rw [if_neg (show ¬ (false = true) by decide)] at H; exact H
         clear H;have H := H1;clear H1;have ba := Aside0.mk H;clear H
         go_upto_if 15 with (fail)
         go_cut [15] (fun b3 wc => ∃ (kq : Nat) (ah : Bool), b3 = .bool ah ∧ Aside0 (za.j1 kq a0 a0 ah = some (r1, r2)) ∧ Aside0 (kq ≤ ay) ∧ Aside0 (Below w.heap.size w wc))
         case first =>
          have H := ba.out;clear ba
          by_cases aw : a0 = 13
          · rw [if_pos aw] at H
            have ab : (a0 == 13) = true := beq_iff_eq.mpr aw;have bb : (a0 != 13) = false := bne_eq_false_iff_eq.mpr aw;clear aw
            (first | rw [ab] | (simp only [qC, qD]; rw [ab]) | skip)
            have H' := Aside0.mk H;clear H;go_wp2;go_meet
            case rel => exact ⟨_, ((a0 == 13)), (by first | rfl | (simp; done) | (simp [*]; done)), H', ⟨by have := bh.out; first | omega | exact Nat.le_refl _⟩, ⟨by repeat (first | (with_reducible first | exact HB.out | apply qa | apply q8 | apply qb) | exact HB.out)⟩⟩
          · rw [if_neg aw] at H
            have ab : (a0 == 13) = false := beq_eq_false_iff_ne.mpr aw;have bb : (a0 != 13) = true := bne_iff_ne.mpr aw
            (first | rw [ab] | (simp only [qC, qD]; rw [ab]) | skip)
            by_cases ax : a0 = 14
            · rw [if_pos ax] at H
              have bc : (a0 == 14) = true := beq_iff_eq.mpr ax;have bd : (a0 != 14) = false := bne_eq_false_iff_eq.mpr ax;clear ax;have H' := Aside0.mk H;clear H;go_wp2;go_meet
              case rel => exact ⟨_, ((a0 == 14)), (by first | rfl | (simp; done) | (simp [*]; done)), H', ⟨by have := bh.out; first | omega | exact Nat.le_refl _⟩, ⟨by repeat (first | (with_reducible first | exact HB.out | apply qa | apply q8 | apply qb) | exact HB.out)⟩⟩
            · rw [if_neg ax] at H
              have bc : (a0 == 14) = false := beq_eq_false_iff_ne.mpr ax;have bd : (a0 != 14) = true := bne_iff_ne.mpr ax;have H' := Aside0.mk H;clear H;go_wp2;go_meet
              case rel => exact ⟨_, ((a0 == 15)), (by first | rfl | (simp; done) | (simp [*]; done)), H', ⟨by have := bh.out; first | omega | exact Nat.le_refl _⟩, ⟨by repeat (first | (with_reducible first | exact HB.out | apply qa | apply q8 | apply qb) | exact HB.out)⟩⟩
         case rest =>
          clear ba
          (try clear c1); (try clear c2); (try clear a5); (try clear a6); (try clear p2); (try clear c3); (try clear a7); (try clear a8); (try clear c5); (try clear af); (try clear a9); (try clear c6); (try clear aw); (try clear ab); (try clear bb); (try clear ax); (try clear bc); (try clear bd); (try clear p2)
          obtain ⟨kq, ah, rfl, HA, cc, HB⟩ := hcut
          cases kq with
          | zero => exact absurd HA.out (by simp [za.j1])
          | succ am =>
           have H := HA.out;clear HA;simp only [za.j1] at H
           by_cases bf : ah = true
           · subst bf
             have H1 : ((zn.f).bind fun an => ((qY.f am an a0).bind fun ao => (some (ao, 7)))) = some (r1, r2) := by rw [if_pos rfl] at H; exact H
             clear H;have H := H1;clear H1;replace H := Option.bind_eq_some_iff.mp H;obtain ⟨an, bj, H⟩ := H;replace H : ((qY.f am an a0).bind fun ao => (some (ao, 7))) = some (r1, r2) := H;have b4 := Aside0.mk bj;clear bj;replace H := Option.bind_eq_some_iff.mp H;obtain ⟨ao, bk, H⟩ := H;replace H : (some (ao, 7)) = some (r1, r2) := H;have b5 := Aside0.mk bk;clear bk;simp only [Option.some.injEq, Prod.mk.injEq] at H;obtain ⟨rfl, rfl⟩ := H
             go_wp2_with (first | ((with_reducible refine qG (f := 55) rfl ?_); refine zc (some 19) rfl rfl Tryd.func55 (by kernel_rfl) rfl #[] rfl (by (try simp only [List.map_toArray, List.map_cons, List.map_nil]); first | done | rfl | (simp only [List.length_drop, List.length_take]; rfl)) ?_; (with_reducible refine (zn.calls  an _ b4.out).mono ?_); rintro e cg ⟨cd, rfl, av, hb⟩; refine ⟨_, rfl, ?_⟩; have ai := Aside0.mk (Kd.R_lower av (qt (by repeat (first | (with_reducible first | exact HB.out | apply qa | apply q8 | apply qb) | exact HB.out)))); replace HB := Aside0.mk (qk (by repeat (first | (with_reducible first | exact HB.out | apply qa | apply q8 | apply qb) | exact HB.out)) hb); (try clear hb); (try clear a4); (try clear hk); (try clear hi); (try clear av); obtain ⟨bv, bw, bz⟩ := Kd.R_slice ai.out; subst bz) | ((with_reducible refine qG (f := 54) rfl ?_); refine zc (some 21) rfl rfl Tryd.func54 (by kernel_rfl) rfl #[.slice bv an.length bw, .int .i64 a0] rfl (by (try simp only [List.map_toArray, List.map_cons, List.map_nil]); first | done | rfl | (simp only [List.length_drop, List.length_take]; rfl)) ?_; (with_reducible refine (qY.calls am _ _ an a0 ao _ ?side1 ?side2 b5.out).mono ?_); (case side1 => repeat (first | exact (Kd.R_reads' ai.out).2.2 | (with_reducible refine Kd.C_alloc ?_ _) | (with_reducible refine Kd.C_drewN ?_ _) | (with_reducible refine Kd.C_drew ?_))); (case side2 => exact (Kd.R_reads' ai.out).2.1); rintro e ch ⟨rfl, hb⟩; refine ⟨_, rfl, ?_⟩; replace ai := Aside0.mk (Kd.R_below (by (with_reducible repeat (first | apply Kd.R_alloc | apply Kd.R_drewN | apply Kd.R_drew)); exact ai.out) hb); replace HB := Aside0.mk (qk (by repeat (first | (with_reducible first | exact HB.out | apply qa | apply q8 | apply qb) | exact HB.out)) hb); (try clear hb); (try clear a4); (try clear hk); (try clear hi)))
             go_ret2
             exact ⟨by first | rfl | (simp [qq, qr] <;> rfl) | (simp [*, qq, qr] <;> rfl), by repeat (first | (with_reducible first | exact HB.out | apply qa | apply q8 | apply qb) | exact HB.out)⟩
           · replace bf := Bool.eq_false_iff.mpr bf
             subst bf
             have H1 : (if a0 = 16 then (some ((⟨#[124, 124]⟩ : ByteArray), 5)) else ((zn.f).bind fun ap => ((qY.f am ap a0).bind fun au => (some (au, 4))))) = some (r1, r2) := by rw [if_neg (show ¬ (false = true) by decide)] at H; exact H
             clear H;have H := H1;clear H1
             by_cases a1 : a0 = 16
             · rw [if_pos a1] at H
               have bn : (a0 == 16) = true := beq_iff_eq.mpr a1;have bo : (a0 != 16) = false := bne_eq_false_iff_eq.mpr a1;clear a1;simp only [Option.some.injEq, Prod.mk.injEq] at H;obtain ⟨rfl, rfl⟩ := H;go_wp2
               go_ret2
               exact ⟨by first | rfl | (simp [qq, qr] <;> rfl) | (simp [*, qq, qr] <;> rfl), by repeat (first | (with_reducible first | exact HB.out | apply qa | apply q8 | apply qb) | exact HB.out)⟩
             · rw [if_neg a1] at H
               have bn : (a0 == 16) = false := beq_eq_false_iff_ne.mpr a1;have bo : (a0 != 16) = true := bne_iff_ne.mpr a1;replace H := Option.bind_eq_some_iff.mp H;obtain ⟨ap, bl, H⟩ := H;replace H : ((qY.f am ap a0).bind fun au => (some (au, 4))) = some (r1, r2) := H;have b6 := Aside0.mk bl;clear bl;replace H := Option.bind_eq_some_iff.mp H;obtain ⟨au, bm, H⟩ := H;replace H : (some (au, 4)) = some (r1, r2) := H;have b7 := Aside0.mk bm;clear bm;simp only [Option.some.injEq, Prod.mk.injEq] at H;obtain ⟨rfl, rfl⟩ := H
               go_wp2_with (first | ((with_reducible refine qG (f := 55) rfl ?_); refine zc (some 24) rfl rfl Tryd.func55 (by kernel_rfl) rfl #[] rfl (by (try simp only [List.map_toArray, List.map_cons, List.map_nil]); first | done | rfl | (simp only [List.length_drop, List.length_take]; rfl)) ?_; (with_reducible refine (zn.calls  ap _ b6.out).mono ?_); rintro e ci ⟨ce, rfl, av, hb⟩; refine ⟨_, rfl, ?_⟩; have aj := Aside0.mk (Kd.R_lower av (qt (by repeat (first | (with_reducible first | exact HB.out | apply qa | apply q8 | apply qb) | exact HB.out)))); replace HB := Aside0.mk (qk (by repeat (first | (with_reducible first | exact HB.out | apply qa | apply q8 | apply qb) | exact HB.out)) hb); (try clear hb); (try clear a4); (try clear hk); (try clear hi); (try clear av); obtain ⟨b0, b1, b2⟩ := Kd.R_slice aj.out; subst b2) | ((with_reducible refine qG (f := 54) rfl ?_); refine zc (some 26) rfl rfl Tryd.func54 (by kernel_rfl) rfl #[.slice b0 ap.length b1, .int .i64 a0] rfl (by (try simp only [List.map_toArray, List.map_cons, List.map_nil]); first | done | rfl | (simp only [List.length_drop, List.length_take]; rfl)) ?_; (with_reducible refine (qY.calls am _ _ ap a0 au _ ?side1 ?side2 b7.out).mono ?_); (case side1 => repeat (first | exact (Kd.R_reads' aj.out).2.2 | (with_reducible refine Kd.C_alloc ?_ _) | (with_reducible refine Kd.C_drewN ?_ _) | (with_reducible refine Kd.C_drew ?_))); (case side2 => exact (Kd.R_reads' aj.out).2.1); rintro e cj ⟨rfl, hb⟩; refine ⟨_, rfl, ?_⟩; replace aj := Aside0.mk (Kd.R_below (by (with_reducible repeat (first | apply Kd.R_alloc | apply Kd.R_drewN | apply Kd.R_drew)); exact aj.out) hb); replace HB := Aside0.mk (qk (by repeat (first | (with_reducible first | exact HB.out | apply qa | apply q8 | apply qb) | exact HB.out)) hb); (try clear hb); (try clear a4); (try clear hk); (try clear hi)))
               go_ret2
               exact ⟨by first | rfl | (simp [qq, qr] <;> rfl) | (simp [*, qq, qr] <;> rfl), by repeat (first | (with_reducible first | exact HB.out | apply qa | apply q8 | apply qb) | exact HB.out)⟩
end Go.Proofs.YtfmgbgkcmmpcfaaDoor.PTx

