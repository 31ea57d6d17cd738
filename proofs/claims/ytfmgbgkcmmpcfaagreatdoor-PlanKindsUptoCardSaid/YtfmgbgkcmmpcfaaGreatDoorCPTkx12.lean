import Derived.Test.YtfmgbgkcmmpcfaaGreatDoorCPTkx0
import Derived.Test.YtfmgbgkcmmpcfaaGreatDoorCPTkx1
namespace Go.Proofs.YtfmgbgkcmmpcfaaGreatDoor.PTk
open Go.RowKit Go.Proofs.YtfmgbgkcmmpcfaaGreatDoorW.PrintWords Go.Proofs.YtfmgbgkcmmpcfaaGreatDoorW.PrintLast Go.Proofs.YtfmgbgkcmmpcfaaGreatDoorW.PrintMore
attribute [local go_sem] zp zC
set_option linter.unusedVariables false
set_option linter.unusedSimpArgs false
def qN.l0 : Nat → Int → ByteArray → Option (ByteArray)
 | 0, _, _ => none
 | k + 1, x0, x3 => if x0 > 0 then ((some (([(wrap64 (48 + (Int.tmod x0 10))) % 256] : List Int) : List Int)).bind fun aa => (if (strOfNums aa).size + x3.size ≤ 9223372036854775807 then (qN.l0 k (wrap64 (Int.tdiv x0 10)) ((strOfNums aa) ++ x3)) else (none))) else (some x3)
def qN.f (k : Nat) (a0 : Int) : Option (ByteArray) := if a0 = 0 then (some (⟨#[48]⟩ : ByteArray)) else (qN.l0 k a0 (⟨#[]⟩ : ByteArray))
set_option maxHeartbeats 8000000 in
set_option maxRecDepth 100000 in
theorem qN.calls (k : Nat) (a0 : Int) (r : ByteArray) (w : World) (h : qN.f k a0 = some r) :
 Calls Tryz.prog 63 #[.int .i64 a0] w fun e w' => e = .returned (.string r) ∧ Below w.heap.size w w' := by
 have HB := Aside0.mk (Below.refl w.heap.size w);have H : (if a0 = 0 then (some (⟨#[48]⟩ : ByteArray)) else (qN.l0 k a0 (⟨#[]⟩ : ByteArray))) = some r := h;clear h
 by_cases c2 : a0 = 0
 · rw [if_pos c2] at H
   have ai : (a0 == 0) = true := beq_iff_eq.mpr c2;have aj : (a0 != 0) = false := bne_eq_false_iff_eq.mpr c2;clear c2;obtain rfl := Option.some.inj H
   go_enter Tryz.func63, Tryz.ntmps63
   go_wp2
   go_ret
   exact ⟨by first | rfl | (simp [qm, qn] <;> rfl) | (simp [*, qm, qn] <;> rfl), by repeat (first | (with_reducible first | exact HB.out | apply q8 | apply q9 | apply qb) | exact HB.out)⟩
 · rw [if_neg c2] at H
   have ai : (a0 == 0) = false := beq_eq_false_iff_ne.mpr c2;have aj : (a0 != 0) = true := bne_iff_ne.mpr c2;have H' := Aside0.mk H;clear H
   go_enter Tryz.func63, Tryz.ntmps63
   go_wp2
   go_loopg [0, 3] k (fun kq v0 v3 w' => ∃ (aa : Int) (ab : ByteArray), v0 = .int .i64 aa ∧ v3 = .string ab ∧ Aside0 (qN.l0 kq aa ab = some r) ∧ Aside0 (kq ≤ k) ∧ Aside0 (Below w.heap.size w w'))
   case atStart => exact ⟨(a0), ((⟨#[]⟩ : ByteArray)), (by first | rfl | (simp; done) | (simp [*]; done)), (by first | rfl | (simp; done) | (simp [*]; done)), H', ⟨Nat.le_refl _⟩, ⟨by repeat (first | (with_reducible first | exact HB.out | apply q8 | apply q9 | apply qb) | exact HB.out)⟩⟩
   case round =>
    clear H'
    (try clear c2); (try clear ai); (try clear aj); (try clear p2)
    obtain ⟨aa, ab, rfl, rfl, HA, al, HB⟩ := hrel
    cases gk with
    | zero => exact absurd HA.out (by simp [qN.l0])
    | succ k1 =>
     have H := HA.out;clear HA;simp only [qN.l0] at H
     by_cases c3 : aa > 0
     · rw [if_pos c3] at H
       have am : decide (0 < aa) = true := decide_eq_true c3;clear c3;obtain ⟨ae, ac⟩ : ∃ y_ : List Int, y_ = (([(wrap64 (48 + (Int.tmod aa 10))) % 256] : List Int)) := ⟨_, rfl⟩
       replace H : (if (strOfNums ae).size + ab.size ≤ 9223372036854775807 then (qN.l0 k1 (wrap64 (Int.tdiv aa 10)) ((strOfNums ae) ++ ab)) else (none)) = some r := by first | (rw [ac]; with_reducible exact H) | (have H2_ := (Option.bind_some _ _).symm.trans H; rw [ac]; with_reducible exact H2_) | (have H2_ := (Option.bind_some _ _).symm.trans H; with_reducible exact H2_) | with_reducible exact H | (rw [ac]; exact H) | exact H
       have ah := Aside0.mk ac;clear ac
       by_cases c4 : (strOfNums ae).size + ab.size ≤ 9223372036854775807
       · rw [if_pos c4] at H
         have ap := eq_true c4;have au : decide ((strOfNums ae).size + ab.size ≤ 9223372036854775807) = true := decide_eq_true c4
         try have av : (9223372036854775807 < (strOfNums ae).size + ab.size) = False := eq_false (Nat.not_lt.2 c4)
         have H' := Aside0.mk H;clear H
         go_wp2_with (first | ((with_reducible refine qU (N := 12) rfl ?_); refine Kd.R_lit (Kd.int .u8) _ 5 ?hg (N := 12) ?hd (xs := ([(wrap64 (48 + (Int.tmod aa 10))) % 256] : List Int)) (inner := [.int .u8 ((wrap64 (48 + (Int.tmod aa 10))) % 256)]) (ok := fun _ => True) (okp := fun _ => True) ?hr ?hp (fun _ hk => hk) trivial (Below.refl _ _) (Nat.le_refl _) (by simp) ?_; (case hd => rfl); (case hg => rfl); (case hr => first | (go_simp; done) | (go_simp; rfl)); (case hp => exact (Reps.one (show Kd.M (Kd.int .u8) _ _ _ ((wrap64 (48 + (Int.tmod aa 10))) % 256) [.int .u8 ((wrap64 (48 + (Int.tmod aa 10))) % 256)] from rfl) (Reps.none _ _))); intro aw w5 ag hb hg_ hnew_; clear hg_ hnew_; (first | rw [← ah.out] at ag | (simp only [Int.reduceToNat] at ag; rw [← ah.out] at ag)); have ak := Aside0.mk (Kd.R_lower ag (qw (by repeat (first | (with_reducible first | exact HB.out | apply q8 | apply q9 | apply qb) | exact HB.out)))); replace HB := Aside0.mk (qr (by repeat (first | (with_reducible first | exact HB.out | apply q8 | apply q9 | apply qb) | exact HB.out)) hb); clear hb ag; have ax := own_string (P := Tryz.prog) Tryz.underlying66 Tryz.underlying5 Tryz.underlying9 (Kd.own_of_R ak.out)))
         go_roundg k1
         case measure => have := al.out; omega
         case rel => exact ⟨(wrap64 (Int.tdiv aa 10)), ((strOfNums ae) ++ ab), (by first | rfl | (simp; done) | (simp [*]; done)), (by first | rfl | (simp; done) | (simp [*]; done)), H', ⟨by have := al.out; omega⟩, ⟨by repeat (first | (with_reducible first | exact HB.out | apply q8 | apply q9 | apply qb) | exact HB.out)⟩⟩
       · rw [if_neg c4] at H
         exact absurd H (by simp)
     · rw [if_neg c3] at H
       have am : decide (0 < aa) = false := decide_eq_false c3;clear c3;obtain rfl := Option.some.inj H;go_wp2
       go_ret
       exact ⟨by first | rfl | (simp [qm, qn] <;> rfl) | (simp [*, qm, qn] <;> rfl), by repeat (first | (with_reducible first | exact HB.out | apply q8 | apply q9 | apply qb) | exact HB.out)⟩
def qG.l0 : Nat → ByteArray → Int → List Int → Int → Option (ByteArray)
 | 0, _, _, _, _ => none
 | k + 1, x0, x1, x5, x6 => if x6 < (x0.size : Int) then (if 0 ≤ x6 then (if (bt x0 x6) = x1 then (if x5.length < 140737488355328 then ((some (x5 ++ [x1] : List Int)).bind fun af => (if af.length < 140737488355328 then (qG.l0 k x0 x1 (af ++ [bt x0 x6]) (wrap64 (x6 + 1))) else (none))) else (none)) else (if x5.length < 140737488355328 then (qG.l0 k x0 x1 (x5 ++ [bt x0 x6]) (wrap64 (x6 + 1))) else (none))) else (none)) else (if x5.length < 140737488355328 then (some (strOfNums (x5 ++ [x1]))) else (none))
def qG.f (k : Nat) (a0 : ByteArray) (a1 : Int) : Option (ByteArray) := qG.l0 k a0 a1 (([a1] : List Int)) 0
set_option maxHeartbeats 8000000 in
set_option maxRecDepth 100000 in
theorem qG.calls (k : Nat) (a0 : ByteArray) (a1 : Int) (r : ByteArray) (w : World) (h : qG.f k a0 a1 = some r) :
 Calls Tryz.prog 113 #[.string a0, .int .u8 a1] w fun e w' => e = .returned (.string r) ∧ Below w.heap.size w w' := by
 have HB := Aside0.mk (Below.refl w.heap.size w);have H : (qG.l0 k a0 a1 (([a1] : List Int)) 0) = some r := h;clear h;obtain ⟨az, af⟩ : ∃ y_ : List Int, y_ = (([a1] : List Int)) := ⟨_, rfl⟩
 replace H : (qG.l0 k a0 a1 az 0) = some r := by first | (rw [af]; with_reducible exact H) | (have H2_ := (Option.bind_some _ _).symm.trans H; rw [af]; with_reducible exact H2_) | (have H2_ := (Option.bind_some _ _).symm.trans H; with_reducible exact H2_) | with_reducible exact H | (rw [af]; exact H) | exact H
 have ao := Aside0.mk af;clear af;have H' := Aside0.mk H;clear H
 go_enter Tryz.func113, Tryz.ntmps113
 go_wp2_with (first | ((with_reducible refine qU (N := 8) rfl ?_); refine Kd.R_lit (Kd.int .u8) _ 5 ?hg (N := 8) ?hd (xs := ([a1] : List Int)) (inner := [.int .u8 a1]) (ok := fun _ => True) (okp := fun _ => True) ?hr ?hp (fun _ hk => hk) trivial (Below.refl _ _) (Nat.le_refl _) (by simp) ?_; (case hd => rfl); (case hg => rfl); (case hr => first | (go_simp; done) | (go_simp; rfl)); (case hp => exact (Reps.one (show Kd.M (Kd.int .u8) _ _ _ a1 [.int .u8 a1] from rfl) (Reps.none _ _))); intro b0 w3 am hb hg_ hnew_; clear hg_ hnew_; (first | rw [← ao.out] at am | (simp only [Int.reduceToNat] at am; rw [← ao.out] at am)); have a6 := Aside0.mk (Kd.R_lower am (qw (by repeat (first | (with_reducible first | exact HB.out | apply q8 | apply q9 | apply qb) | exact HB.out)))); replace HB := Aside0.mk (qr (by repeat (first | (with_reducible first | exact HB.out | apply q8 | apply q9 | apply qb) | exact HB.out)) hb); clear hb am))
 go_loopg [5, 6] k (fun kq v5 v6 w' => ∃ (ae : List Int) (aa : Int), v6 = .int .i64 aa ∧ Aside0 (qG.l0 kq a0 a1 ae aa = some r) ∧ Aside0 (kq ≤ k) ∧ Aside0 (Kd.R (Kd.int .u8) 5 w' w.heap.size (fun _ => True) v5 ae) ∧ Aside0 (Below w.heap.size w w'))
 case atStart => exact ⟨(az), (0), (by first | rfl | (simp; done) | (simp [*]; done)), H', ⟨Nat.le_refl _⟩, ⟨by (with_reducible repeat (first | apply Kd.R_alloc | apply Kd.R_drewN | apply Kd.R_drew)); exact a6.out⟩, ⟨by repeat (first | (with_reducible first | exact HB.out | apply q8 | apply q9 | apply qb) | exact HB.out)⟩⟩
 case round =>
  clear H'
  (try clear c1); (try clear p2)
  obtain ⟨ae, aa, rfl, HA, ap, ak, HB⟩ := hrel
  cases gk with
  | zero => exact absurd HA.out (by simp [qG.l0])
  | succ k1 =>
   have H := HA.out;clear HA;simp only [qG.l0] at H
   by_cases c5 : aa < (a0.size : Int)
   · rw [if_pos c5] at H
     have bo : decide (aa < (a0.size : Int)) = true := decide_eq_true c5;clear c5
     by_cases c6 : 0 ≤ aa
     · rw [if_pos c6] at H
       have b3 : decide (0 ≤ aa) = true := decide_eq_true c6;clear c6
       by_cases c8 : (bt a0 aa) = a1
       · rw [if_pos c8] at H
         have bp : ((bt a0 aa) == a1) = true := beq_iff_eq.mpr c8;have bq : ((bt a0 aa) != a1) = false := bne_eq_false_iff_eq.mpr c8;clear c8
         by_cases c9 : ae.length < 140737488355328
         · rw [if_pos c9] at H
           have br := Aside0.mk c9;clear c9;obtain ⟨al, ag⟩ : ∃ y_ : List Int, y_ = (ae ++ [a1]) := ⟨_, rfl⟩
           replace H : (if al.length < 140737488355328 then (qG.l0 k1 a0 a1 (al ++ [bt a0 aa]) (wrap64 (aa + 1))) else (none)) = some r := by first | (rw [ag]; with_reducible exact H) | (have H2_ := (Option.bind_some _ _).symm.trans H; rw [ag]; with_reducible exact H2_) | (have H2_ := (Option.bind_some _ _).symm.trans H; with_reducible exact H2_) | with_reducible exact H | (rw [ag]; exact H) | exact H
           have a9 := Aside0.mk ag;clear ag
           by_cases au : al.length < 140737488355328
           · rw [if_pos au] at H
             have ba := Aside0.mk au;clear au;obtain ⟨a2, ah⟩ : ∃ y_ : List Int, y_ = (al ++ [bt a0 aa]) := ⟨_, rfl⟩
             replace H : (qG.l0 k1 a0 a1 a2 (wrap64 (aa + 1))) = some r := by first | (rw [ah]; with_reducible exact H) | (have H2_ := (Option.bind_some _ _).symm.trans H; rw [ah]; with_reducible exact H2_) | (have H2_ := (Option.bind_some _ _).symm.trans H; with_reducible exact H2_) | with_reducible exact H | (rw [ah]; exact H) | exact H
             have bb := Aside0.mk ah;clear ah;have H' := Aside0.mk H;clear H;have p7 : 0 ≤ (aa : Int) := of_decide_eq_true (by first | (with_reducible assumption) | assumption);have q7 : aa < (a0.size : Int) := of_decide_eq_true (by first | (with_reducible assumption) | assumption);have bv := zX a0 aa;replace p7 := eq_true p7;replace q7 := eq_true q7
             go_wp2_with (first | ((with_reducible refine xp (b := .append) (xs := #[.tmp 20, .tmp 22]) rfl ?_); at_builtin; refine Kd.R_append (Kd.int .u8) (w0 := w) w.heap.size rfl (.tmp 20) (.tmp 22) 66 5 (.int .u8 0) 1 rfl Tryz.underlying66 info5 rfl (by decide) (by omega) u5 ae a1 [.int .u8 a1] (fun _ => True) (fun _ => False) rfl rfl ?aP (fun _ hk => hk.elim) ?aF ?aO ?aB ?aS ?aL ?_; (case aP => exact rfl); (case aB => exact (by repeat (first | (with_reducible first | exact HB.out | apply q8 | apply q9 | apply qb) | exact HB.out))); (case aF => exact (fun _ _ => trivial)); (case aO => exact (by (with_reducible repeat (first | apply Kd.R_alloc | apply Kd.R_drewN | apply Kd.R_drew)); exact ak.out)); (case aS => exact (qw (by repeat (first | (with_reducible first | exact HB.out | apply q8 | apply q9 | apply qb) | exact HB.out)))); (case aL => have := br.out; omega); intro bs b9 ho hb hg hat; rw [← a9.out] at ho; have n0_ := Aside0.mk (hb); have n1_ := Aside0.mk (ho); clear HB; clear ak; have HB := n0_; have av := n1_; clear n0_ n1_; clear ho hb hg hat; have bk : 0 ≤ (aa : Int) := of_decide_eq_true (by first | (with_reducible assumption) | assumption); have bl : aa < (a0.size : Int) := of_decide_eq_true (by first | (with_reducible assumption) | assumption); have b4 := zX a0 aa; replace bk := eq_true bk; replace bl := eq_true bl) | ((with_reducible refine xp (b := .append) (xs := #[.tmp 24, .tmp 28]) rfl ?_); at_builtin; refine Kd.R_append (Kd.int .u8) (w0 := w) w.heap.size rfl (.tmp 24) (.tmp 28) 66 5 (.int .u8 0) 1 rfl Tryz.underlying66 info5 rfl (by decide) (by omega) bs al (bt a0 aa) [.int .u8 (bt a0 aa)] (fun _ => True) (fun _ => False) rfl rfl ?aP (fun _ hk => hk.elim) ?aF ?aO ?aB ?aS ?aL ?_; (case aP => exact rfl); (case aB => exact (by repeat (first | (with_reducible first | exact HB.out | apply q8 | apply q9 | apply qb) | exact HB.out))); (case aF => exact (fun _ _ => trivial)); (case aO => exact (by (with_reducible repeat (first | apply Kd.R_alloc | apply Kd.R_drewN | apply Kd.R_drew)); exact av.out)); (case aS => exact (qw (by repeat (first | (with_reducible first | exact HB.out | apply q8 | apply q9 | apply qb) | exact HB.out)))); (case aL => have := ba.out; omega); intro b5 cb ho hb hg hat; rw [← bb.out] at ho; have n0_ := Aside0.mk (hb); have n1_ := Aside0.mk (ho); clear HB; clear av; have HB := n0_; have bc := n1_; clear n0_ n1_; clear ho hb hg hat))
             go_roundg k1
             case measure => have := ap.out; omega
             case rel => exact ⟨(a2), (wrap64 (aa + 1)), (by first | rfl | (simp; done) | (simp [*]; done)), H', ⟨by have := ap.out; omega⟩, ⟨by (with_reducible repeat (first | apply Kd.R_alloc | apply Kd.R_drewN | apply Kd.R_drew)); exact bc.out⟩, ⟨by repeat (first | (with_reducible first | exact HB.out | apply q8 | apply q9 | apply qb) | exact HB.out)⟩⟩
           · rw [if_neg au] at H
             exact absurd H (by simp)
         · rw [if_neg c9] at H
           exact absurd H (by simp)
       · rw [if_neg c8] at H
         have bp : ((bt a0 aa) == a1) = false := beq_eq_false_iff_ne.mpr c8;have bq : ((bt a0 aa) != a1) = true := bne_iff_ne.mpr c8
         by_cases aw : ae.length < 140737488355328
         · rw [if_pos aw] at H
           have bd := Aside0.mk aw;clear aw;obtain ⟨a5, ai⟩ : ∃ y_ : List Int, y_ = (ae ++ [bt a0 aa]) := ⟨_, rfl⟩
           replace H : (qG.l0 k1 a0 a1 a5 (wrap64 (aa + 1))) = some r := by first | (rw [ai]; with_reducible exact H) | (have H2_ := (Option.bind_some _ _).symm.trans H; rw [ai]; with_reducible exact H2_) | (have H2_ := (Option.bind_some _ _).symm.trans H; with_reducible exact H2_) | with_reducible exact H | (rw [ai]; exact H) | exact H
           have bf := Aside0.mk ai;clear ai;have H' := Aside0.mk H;clear H;have p7 : 0 ≤ (aa : Int) := of_decide_eq_true (by first | (with_reducible assumption) | assumption);have q7 : aa < (a0.size : Int) := of_decide_eq_true (by first | (with_reducible assumption) | assumption);have bv := zX a0 aa;replace p7 := eq_true p7;replace q7 := eq_true q7;have bm : 0 ≤ (aa : Int) := of_decide_eq_true (by first | (with_reducible assumption) | assumption);have bn : aa < (a0.size : Int) := of_decide_eq_true (by first | (with_reducible assumption) | assumption);have b6 := zX a0 aa;replace bm := eq_true bm;replace bn := eq_true bn
           go_wp2_with (first | ((with_reducible refine xp (b := .append) (xs := #[.tmp 24, .tmp 28]) rfl ?_); at_builtin; refine Kd.R_append (Kd.int .u8) (w0 := w) w.heap.size rfl (.tmp 24) (.tmp 28) 66 5 (.int .u8 0) 1 rfl Tryz.underlying66 info5 rfl (by decide) (by omega) u5 ae (bt a0 aa) [.int .u8 (bt a0 aa)] (fun _ => True) (fun _ => False) rfl rfl ?aP (fun _ hk => hk.elim) ?aF ?aO ?aB ?aS ?aL ?_; (case aP => exact rfl); (case aB => exact (by repeat (first | (with_reducible first | exact HB.out | apply q8 | apply q9 | apply qb) | exact HB.out))); (case aF => exact (fun _ _ => trivial)); (case aO => exact (by (with_reducible repeat (first | apply Kd.R_alloc | apply Kd.R_drewN | apply Kd.R_drew)); exact ak.out)); (case aS => exact (qw (by repeat (first | (with_reducible first | exact HB.out | apply q8 | apply q9 | apply qb) | exact HB.out)))); (case aL => have := bd.out; omega); intro b7 cc ho hb hg hat; rw [← bf.out] at ho; have n0_ := Aside0.mk (hb); have n1_ := Aside0.mk (ho); clear HB; clear ak; have HB := n0_; have bg := n1_; clear n0_ n1_; clear ho hb hg hat))
           go_roundg k1
           case measure => have := ap.out; omega
           case rel => exact ⟨(a5), (wrap64 (aa + 1)), (by first | rfl | (simp; done) | (simp [*]; done)), H', ⟨by have := ap.out; omega⟩, ⟨by (with_reducible repeat (first | apply Kd.R_alloc | apply Kd.R_drewN | apply Kd.R_drew)); exact bg.out⟩, ⟨by repeat (first | (with_reducible first | exact HB.out | apply q8 | apply q9 | apply qb) | exact HB.out)⟩⟩
         · rw [if_neg aw] at H
           exact absurd H (by simp)
     · rw [if_neg c6] at H
       exact absurd H (by simp)
   · rw [if_neg c5] at H
     have bo : decide (aa < (a0.size : Int)) = false := decide_eq_false c5;clear c5
     by_cases ax : ae.length < 140737488355328
     · rw [if_pos ax] at H
       have bh := Aside0.mk ax;clear ax;obtain ⟨bu, aj⟩ : ∃ y_ : List Int, y_ = (ae ++ [a1]) := ⟨_, rfl⟩
       replace H : (some (strOfNums bu)) = some r := by first | (rw [aj]; with_reducible exact H) | (have H2_ := (Option.bind_some _ _).symm.trans H; rw [aj]; with_reducible exact H2_) | (have H2_ := (Option.bind_some _ _).symm.trans H; with_reducible exact H2_) | with_reducible exact H | (rw [aj]; exact H) | exact H
       have bi := Aside0.mk aj;clear aj;obtain rfl := Option.some.inj H
       go_wp2_with (first | ((with_reducible refine xp (b := .append) (xs := #[.tmp 30, .tmp 32]) rfl ?_); at_builtin; refine Kd.R_append (Kd.int .u8) (w0 := w) w.heap.size rfl (.tmp 30) (.tmp 32) 66 5 (.int .u8 0) 1 rfl Tryz.underlying66 info5 rfl (by decide) (by omega) u5 ae a1 [.int .u8 a1] (fun _ => True) (fun _ => False) rfl rfl ?aP (fun _ hk => hk.elim) ?aF ?aO ?aB ?aS ?aL ?_; (case aP => exact rfl); (case aB => exact (by repeat (first | (with_reducible first | exact HB.out | apply q8 | apply q9 | apply qb) | exact HB.out))); (case aF => exact (fun _ _ => trivial)); (case aO => exact (by (with_reducible repeat (first | apply Kd.R_alloc | apply Kd.R_drewN | apply Kd.R_drew)); exact ak.out)); (case aS => exact (qw (by repeat (first | (with_reducible first | exact HB.out | apply q8 | apply q9 | apply qb) | exact HB.out)))); (case aL => have := bh.out; omega); intro b8 cd ho hb hg hat; rw [← bi.out] at ho; have n0_ := Aside0.mk (hb); have n1_ := Aside0.mk (ho); clear HB; clear ak; have HB := n0_; have bj := n1_; clear n0_ n1_; clear ho hb hg hat; have bz := own_string (P := Tryz.prog) Tryz.underlying66 Tryz.underlying5 Tryz.underlying9 (Kd.own_of_R bj.out)))
       go_ret
       exact ⟨by first | rfl | (simp [qm, qn] <;> rfl) | (simp [*, qm, qn] <;> rfl), by repeat (first | (with_reducible first | exact HB.out | apply q8 | apply q9 | apply qb) | exact HB.out)⟩
     · rw [if_neg ax] at H
       exact absurd H (by simp)
def qR.f (a0 : Int) : Option (Bool) := if a0 ≥ 48 then (some (decide (a0 ≤ 57))) else (some false)
set_option maxHeartbeats 8000000 in
set_option maxRecDepth 100000 in
theorem qR.calls (a0 : Int) (r : Bool) (w : World) (h : qR.f a0 = some r) :
 Calls Tryz.prog 143 #[.int .u8 a0] w fun e w' => e = .returned (.bool r) ∧ qt w w' := by
 have H : (if a0 ≥ 48 then (some (decide (a0 ≤ 57))) else (some false)) = some r := h;clear h
 by_cases c2 : a0 ≥ 48
 · rw [if_pos c2] at H
   have ab : decide (48 ≤ a0) = true := decide_eq_true c2;clear c2;obtain rfl := Option.some.inj H
   go_enter Tryz.func143, Tryz.ntmps143
   go_wp2
   go_ret
   exact ⟨by first | rfl | (simp; done) | (simp [*]; done), by repeat (first | exact qt.refl _ | apply qt.step)⟩
 · rw [if_neg c2] at H
   have ab : decide (48 ≤ a0) = false := decide_eq_false c2;clear c2;obtain rfl := Option.some.inj H
   go_enter Tryz.func143, Tryz.ntmps143
   go_wp2
   go_ret
   exact ⟨by first | rfl | (simp; done) | (simp [*]; done), by repeat (first | exact qt.refl _ | apply qt.step)⟩
mutual
def qu.j0 : Nat → ByteArray → Bool → Option (ByteArray)
 | 0, _, _ => none
 | k + 1, x0, x3 => qu.l0 k x0 x3 0
def qu.l0 : Nat → ByteArray → Bool → Int → Option (ByteArray)
 | 0, _, _, _ => none
 | k + 1, x0, x3, x4 => if x4 < (x0.size : Int) then (if 0 ≤ x4 then (if (bt x0 x4) ≥ 97 then (if (bt x0 x4) ≤ 122 then (qu.l0 k x0 x3 (wrap64 (x4 + 1))) else ((qR.f (bt x0 x4)).bind fun t178 => (if t178 = true then (qu.l0 k x0 x3 (wrap64 (x4 + 1))) else (if ((bt x0 x4) = 95) then (qu.l0 k x0 x3 (wrap64 (x4 + 1))) else (qu.l0 k x0 false (wrap64 (x4 + 1))))))) else ((qR.f (bt x0 x4)).bind fun t179 => (if t179 = true then (qu.l0 k x0 x3 (wrap64 (x4 + 1))) else (if ((bt x0 x4) = 95) then (qu.l0 k x0 x3 (wrap64 (x4 + 1))) else (qu.l0 k x0 false (wrap64 (x4 + 1))))))) else (none)) else (if x3 = true then (some x0) else ((qG.f k x0 34).bind fun t180 => (some t180)))
end
def qu.f (k : Nat) (a0 : ByteArray) : Option (ByteArray) := if (a0.size : Int) > 0 then (if 0 < (a0.size : Int) then ((qR.f (bt a0 0)).bind fun ab => (if ab = true then (qu.j0 k a0 false) else ((zg.f a0).bind fun ac => ((za.f ac).bind fun ae => (qu.j0 k a0 (!ae)))))) else (none)) else (qu.j0 k a0 false)
set_option maxHeartbeats 8000000 in
set_option maxRecDepth 100000 in
theorem qu.calls (k : Nat) (a0 : ByteArray) (r : ByteArray) (w : World) (h : qu.f k a0 = some r) :
 Calls Tryz.prog 93 #[.string a0] w fun e w' => e = .returned (.string r) ∧ Below w.heap.size w w' := by
 have HB := Aside0.mk (Below.refl w.heap.size w);have H : (if (a0.size : Int) > 0 then (if 0 < (a0.size : Int) then ((qR.f (bt a0 0)).bind fun a3 => (if a3 = true then (qu.j0 k a0 false) else ((zg.f a0).bind fun ak => ((za.f ak).bind fun ag => (qu.j0 k a0 (!ag)))))) else (none)) else (qu.j0 k a0 false)) = some r := h;clear h;have bj := Aside0.mk H;clear H
 go_enter Tryz.func93, Tryz.ntmps93
 go_upto_region 1 with (fail)
 go_cut [3] (fun v3 wc => ∃ (kq : Nat) (a4 : Bool), v3 = .bool a4 ∧ Aside0 (qu.j0 kq a0 a4 = some r) ∧ Aside0 (kq ≤ k) ∧ Aside0 (Below w.heap.size w wc))
 case first =>
  have H := bj.out;clear bj
  by_cases c3 : (a0.size : Int) > 0
  · rw [if_pos c3] at H
    have an : decide (0 < (a0.size : Int)) = true := decide_eq_true c3;have ba : decide (0 < a0.size) = true := decide_eq_true (by omega);clear c3
    (first | rw [an] | (simp only [qH, qK]; rw [an]) | skip)
    by_cases c4 : 0 < (a0.size : Int)
    · rw [if_pos c4] at H
      have bk : decide (0 < (a0.size : Int)) = true := decide_eq_true c4;have bl : decide (0 < a0.size) = true := decide_eq_true (by omega);clear c4;replace H := Option.bind_eq_some_iff.mp H;obtain ⟨a3, b7, H⟩ := H;replace H : (if a3 = true then (qu.j0 k a0 false) else ((zg.f a0).bind fun ak => ((za.f ak).bind fun ag => (qu.j0 k a0 (!ag))))) = some r := H;have A6 := Aside0.mk b7;clear b7
      by_cases c7 : a3 = true
      · subst c7
        have H1 : (qu.j0 k a0 false) = some r := by rw [if_pos rfl] at H; exact H
        clear H;have H := H1;clear H1;have H' := Aside0.mk H;clear H;have p5 : 0 ≤ (0 : Int) := (by omega);have q5 : 0 < a0.size := (by have : (0 : Int) < (a0.size : Int) := of_decide_eq_true (by first | (with_reducible assumption) | assumption); omega);have bm : ∀ h : 0 < a0.size, ((a0[0]'h).toNat : Int) = bt a0 0 := zX a0 0;clear p5;have bn : (0 < (a0.size : Int)) = True := eq_true (of_decide_eq_true (by first | (with_reducible assumption) | assumption));replace q5 := eq_true q5
        go_wp2_with (first | (go_at_call 143; (with_reducible refine (qR.calls (bt a0 0) true _ A6.out).mono ?_); rintro e w' ⟨rfl, ⟨nd, rfl⟩⟩))
        go_meet
        case rel => exact ⟨_, (false), (by first | rfl | (simp; done) | (simp [*]; done)), H', ⟨by first | omega | exact Nat.le_refl _⟩, ⟨by repeat (first | (with_reducible first | exact HB.out | apply q8 | apply q9 | apply qb) | exact HB.out)⟩⟩
      · replace c7 := Bool.eq_false_iff.mpr c7
        subst c7
        have H1 : ((zg.f a0).bind fun ak => ((za.f ak).bind fun ag => (qu.j0 k a0 (!ag)))) = some r := by rw [if_neg (show ¬ (false = true) by decide)] at H; exact H
        clear H;have H := H1;clear H1;replace H := Option.bind_eq_some_iff.mp H;obtain ⟨ak, b8, H⟩ := H;replace H : ((za.f ak).bind fun ag => (qu.j0 k a0 (!ag))) = some r := H;have A8 := Aside0.mk b8;clear b8;replace H := Option.bind_eq_some_iff.mp H;obtain ⟨ag, b9, H⟩ := H;replace H : (qu.j0 k a0 (!ag)) = some r := H;have A9 := Aside0.mk b9;clear b9;have H' := Aside0.mk H;clear H;have p5 : 0 ≤ (0 : Int) := (by omega);have q5 : 0 < a0.size := (by have : (0 : Int) < (a0.size : Int) := of_decide_eq_true (by first | (with_reducible assumption) | assumption); omega);have bm : ∀ h : 0 < a0.size, ((a0[0]'h).toNat : Int) = bt a0 0 := zX a0 0;clear p5;have bn : (0 < (a0.size : Int)) = True := eq_true (of_decide_eq_true (by first | (with_reducible assumption) | assumption));replace q5 := eq_true q5
        go_wp2_with (first | (go_at_call 143; (with_reducible refine (qR.calls (bt a0 0) false _ A6.out).mono ?_); rintro e w' ⟨rfl, ⟨nd, rfl⟩⟩) | (go_at_call 145; (with_reducible refine (zg.calls a0 ak _ A8.out).mono ?_); rintro e co ⟨rfl, hb⟩; replace HB := Aside0.mk (qr (by repeat (first | (with_reducible first | exact HB.out | apply q8 | apply q9 | apply qb) | exact HB.out)) hb); (try clear hb); (try clear cb); (try clear hk); (try clear hi)) | (go_at_call 144; (with_reducible refine (za.calls ak ag _ A9.out).mono ?_); rintro e cp ⟨rfl, hb⟩; replace HB := Aside0.mk (qr (by repeat (first | (with_reducible first | exact HB.out | apply q8 | apply q9 | apply qb) | exact HB.out)) hb); (try clear hb); (try clear cb); (try clear hk); (try clear hi)))
        go_meet
        case rel => exact ⟨_, (!ag), (by first | rfl | (simp; done) | (simp [*]; done)), H', ⟨by first | omega | exact Nat.le_refl _⟩, ⟨by repeat (first | (with_reducible first | exact HB.out | apply q8 | apply q9 | apply qb) | exact HB.out)⟩⟩
    · rw [if_neg c4] at H
      exact absurd H (by simp)
  · rw [if_neg c3] at H
    have an : decide (0 < (a0.size : Int)) = false := decide_eq_false c3;have ba : decide (0 < a0.size) = false := decide_eq_false (by omega);clear c3
    (first | rw [an] | (simp only [qH, qK]; rw [an]) | skip)
    have H' := Aside0.mk H;clear H;go_wp2;go_meet
    case rel => exact ⟨_, (false), (by first | rfl | (simp; done) | (simp [*]; done)), H', ⟨by first | omega | exact Nat.le_refl _⟩, ⟨by repeat (first | (with_reducible first | exact HB.out | apply q8 | apply q9 | apply qb) | exact HB.out)⟩⟩
 case rest =>
  clear bj
  (try clear p2); (try clear c3); (try clear an); (try clear ba); (try clear c4); (try clear bk); (try clear bl); (try clear p5); (try clear q5); (try clear bm); (try clear bn); (try clear c7); (try clear c9); (try clear p5); (try clear q5)
  obtain ⟨kq, a4, rfl, HA, ai, HB⟩ := hcut
  cases kq with
  | zero => exact absurd HA.out (by simp [qu.j0])
  | succ cc =>
   have H := HA.out;clear HA;simp only [qu.j0] at H;have H' := Aside0.mk H;clear H;go_wp2
   go_loopg [3, 4] cc (fun kq v3 v4 w' => ∃ (ac : Bool) (aa : Int), v3 = .bool ac ∧ v4 = .int .i64 aa ∧ Aside0 (qu.l0 kq a0 ac aa = some r) ∧ Aside0 (kq ≤ cc) ∧ Aside0 (Below w.heap.size w w'))
   case atStart => exact ⟨(a4), (0), (by first | rfl | (simp; done) | (simp [*]; done)), (by first | rfl | (simp; done) | (simp [*]; done)), H', ⟨Nat.le_refl _⟩, ⟨by repeat (first | (with_reducible first | exact HB.out | apply q8 | apply q9 | apply qb) | exact HB.out)⟩⟩
   case round =>
    clear H'
    (try clear p2); (try clear c3); (try clear an); (try clear ba); (try clear c4); (try clear bk); (try clear bl); (try clear p5); (try clear q5); (try clear bm); (try clear bn); (try clear c7); (try clear c9); (try clear p2); (try clear p5); (try clear q5)
    obtain ⟨ac, aa, rfl, rfl, HA, aj, HB⟩ := hrel
    cases gk with
    | zero => exact absurd HA.out (by simp [qu.l0])
    | succ k2 =>
     have H := HA.out;clear HA;simp only [qu.l0] at H
     by_cases az : aa < (a0.size : Int)
     · rw [if_pos az] at H
       have b0 : decide (aa < (a0.size : Int)) = true := decide_eq_true az;clear az
       by_cases bd : 0 ≤ aa
       · rw [if_pos bd] at H
         have ci : decide (0 ≤ aa) = true := decide_eq_true bd;clear bd
         by_cases a1 : (bt a0 aa) ≥ 97
         · rw [if_pos a1] at H
           have b1 : decide (97 ≤ (bt a0 aa)) = true := decide_eq_true a1;clear a1
           by_cases a2 : (bt a0 aa) ≤ 122
           · rw [if_pos a2] at H
             have b2 : decide ((bt a0 aa) ≤ 122) = true := decide_eq_true a2;clear a2;have H' := Aside0.mk H;clear H;have ae : 0 ≤ (aa : Int) := of_decide_eq_true (by first | (with_reducible assumption) | assumption);have af : aa < (a0.size : Int) := of_decide_eq_true (by first | (with_reducible assumption) | assumption);have ao := zX a0 aa;replace ae := eq_true ae;replace af := eq_true af;have al : 0 ≤ (aa : Int) := of_decide_eq_true (by first | (with_reducible assumption) | assumption);have am : aa < (a0.size : Int) := of_decide_eq_true (by first | (with_reducible assumption) | assumption);have bc := zX a0 aa;replace al := eq_true al;replace am := eq_true am;go_wp2
             go_roundg k2
             case measure => have := ai.out; have := aj.out; omega
             case rel => exact ⟨(ac), (wrap64 (aa + 1)), (by first | rfl | (simp; done) | (simp [*]; done)), (by first | rfl | (simp; done) | (simp [*]; done)), H', ⟨by have := ai.out; have := aj.out; omega⟩, ⟨by repeat (first | (with_reducible first | exact HB.out | apply q8 | apply q9 | apply qb) | exact HB.out)⟩⟩
           · rw [if_neg a2] at H
             have b2 : decide ((bt a0 aa) ≤ 122) = false := decide_eq_false a2;clear a2;replace H := Option.bind_eq_some_iff.mp H;obtain ⟨bo, bp, H⟩ := H;replace H : (if bo = true then (qu.l0 k2 a0 ac (wrap64 (aa + 1))) else (if ((bt a0 aa) = 95) then (qu.l0 k2 a0 ac (wrap64 (aa + 1))) else (qu.l0 k2 a0 false (wrap64 (aa + 1))))) = some r := H;have bq := Aside0.mk bp;clear bp
             by_cases bf : bo = true
             · subst bf
               have H1 : (qu.l0 k2 a0 ac (wrap64 (aa + 1))) = some r := by rw [if_pos rfl] at H; exact H
               clear H;have H := H1;clear H1;have H' := Aside0.mk H;clear H;have ae : 0 ≤ (aa : Int) := of_decide_eq_true (by first | (with_reducible assumption) | assumption);have af : aa < (a0.size : Int) := of_decide_eq_true (by first | (with_reducible assumption) | assumption);have ao := zX a0 aa;replace ae := eq_true ae;replace af := eq_true af;have al : 0 ≤ (aa : Int) := of_decide_eq_true (by first | (with_reducible assumption) | assumption);have am : aa < (a0.size : Int) := of_decide_eq_true (by first | (with_reducible assumption) | assumption);have bc := zX a0 aa;replace al := eq_true al;replace am := eq_true am;have ap : 0 ≤ (aa : Int) := of_decide_eq_true (by first | (with_reducible assumption) | assumption);have au : aa < (a0.size : Int) := of_decide_eq_true (by first | (with_reducible assumption) | assumption);have br := zX a0 aa;replace ap := eq_true ap;replace au := eq_true au
               go_wp2_with (first | (go_at_call 143; (with_reducible refine (qR.calls (bt a0 aa) true _ bq.out).mono ?_); rintro e w' ⟨rfl, ⟨nd, rfl⟩⟩))
               go_roundg k2
               case measure => have := ai.out; have := aj.out; omega
               case rel => exact ⟨(ac), (wrap64 (aa + 1)), (by first | rfl | (simp; done) | (simp [*]; done)), (by first | rfl | (simp; done) | (simp [*]; done)), H', ⟨by have := ai.out; have := aj.out; omega⟩, ⟨by repeat (first | (with_reducible first | exact HB.out | apply q8 | apply q9 | apply qb) | exact HB.out)⟩⟩
             · replace bf := Bool.eq_false_iff.mpr bf
               subst bf
               have H1 : (if ((bt a0 aa) = 95) then (qu.l0 k2 a0 ac (wrap64 (aa + 1))) else (qu.l0 k2 a0 false (wrap64 (aa + 1)))) = some r := by rw [if_neg (show ¬ (false = true) by decide)] at H; exact H
               clear H;have H := H1;clear H1
               by_cases ax : ((bt a0 aa) = 95)
               · rw [if_pos ax] at H
                 have b3 : ((bt a0 aa) == 95) = true := beq_iff_eq.mpr ax;have b4 : ((bt a0 aa) != 95) = false := bne_eq_false_iff_eq.mpr ax;clear ax;have H' := Aside0.mk H;clear H;have ae : 0 ≤ (aa : Int) := of_decide_eq_true (by first | (with_reducible assumption) | assumption);have af : aa < (a0.size : Int) := of_decide_eq_true (by first | (with_reducible assumption) | assumption);have ao := zX a0 aa;replace ae := eq_true ae;replace af := eq_true af;have al : 0 ≤ (aa : Int) := of_decide_eq_true (by first | (with_reducible assumption) | assumption);have am : aa < (a0.size : Int) := of_decide_eq_true (by first | (with_reducible assumption) | assumption);have bc := zX a0 aa;replace al := eq_true al;replace am := eq_true am;have ap : 0 ≤ (aa : Int) := of_decide_eq_true (by first | (with_reducible assumption) | assumption);have au : aa < (a0.size : Int) := of_decide_eq_true (by first | (with_reducible assumption) | assumption);have br := zX a0 aa;replace ap := eq_true ap;replace au := eq_true au
                 go_wp2_with (first | (go_at_call 143; (with_reducible refine (qR.calls (bt a0 aa) false _ bq.out).mono ?_); rintro e w' ⟨rfl, ⟨nd, rfl⟩⟩; have a7 : 0 ≤ (aa : Int) := of_decide_eq_true (by first | (with_reducible assumption) | assumption); have a8 : aa < (a0.size : Int) := of_decide_eq_true (by first | (with_reducible assumption) | assumption); have ce := zX a0 aa; replace a7 := eq_true a7; replace a8 := eq_true a8))
                 go_roundg k2
                 case measure => have := ai.out; have := aj.out; omega
                 case rel => exact ⟨(ac), (wrap64 (aa + 1)), (by first | rfl | (simp; done) | (simp [*]; done)), (by first | rfl | (simp; done) | (simp [*]; done)), H', ⟨by have := ai.out; have := aj.out; omega⟩, ⟨by repeat (first | (with_reducible first | exact HB.out | apply q8 | apply q9 | apply qb) | exact HB.out)⟩⟩
               · rw [if_neg ax] at H
                 have b3 : ((bt a0 aa) == 95) = false := beq_eq_false_iff_ne.mpr ax;have b4 : ((bt a0 aa) != 95) = true := bne_iff_ne.mpr ax;have H' := Aside0.mk H;clear H;have ae : 0 ≤ (aa : Int) := of_decide_eq_true (by first | (with_reducible assumption) | assumption);have af : aa < (a0.size : Int) := of_decide_eq_true (by first | (with_reducible assumption) | assumption);have ao := zX a0 aa;replace ae := eq_true ae;replace af := eq_true af;have al : 0 ≤ (aa : Int) := of_decide_eq_true (by first | (with_reducible assumption) | assumption);have am : aa < (a0.size : Int) := of_decide_eq_true (by first | (with_reducible assumption) | assumption);have bc := zX a0 aa;replace al := eq_true al;replace am := eq_true am;have ap : 0 ≤ (aa : Int) := of_decide_eq_true (by first | (with_reducible assumption) | assumption);have au : aa < (a0.size : Int) := of_decide_eq_true (by first | (with_reducible assumption) | assumption);have br := zX a0 aa;replace ap := eq_true ap;replace au := eq_true au
                 go_wp2_with (first | (go_at_call 143; (with_reducible refine (qR.calls (bt a0 aa) false _ bq.out).mono ?_); rintro e w' ⟨rfl, ⟨nd, rfl⟩⟩; have a7 : 0 ≤ (aa : Int) := of_decide_eq_true (by first | (with_reducible assumption) | assumption); have a8 : aa < (a0.size : Int) := of_decide_eq_true (by first | (with_reducible assumption) | assumption); have ce := zX a0 aa; replace a7 := eq_true a7; replace a8 := eq_true a8))
                 go_roundg k2
                 case measure => have := ai.out; have := aj.out; omega
                 case rel => exact ⟨(false), (wrap64 (aa + 1)), (by first | rfl | (simp; done) | (simp [*]; done)), (by first | rfl | (simp; done) | (simp [*]; done)), H', ⟨by have := ai.out; have := aj.out; omega⟩, ⟨by repeat (first | (with_reducible first | exact HB.out | apply q8 | apply q9 | apply qb) | exact HB.out)⟩⟩
         · rw [if_neg a1] at H
           have b1 : decide (97 ≤ (bt a0 aa)) = false := decide_eq_false a1;clear a1;replace H := Option.bind_eq_some_iff.mp H;obtain ⟨bs, bu, H⟩ := H;replace H : (if bs = true then (qu.l0 k2 a0 ac (wrap64 (aa + 1))) else (if ((bt a0 aa) = 95) then (qu.l0 k2 a0 ac (wrap64 (aa + 1))) else (qu.l0 k2 a0 false (wrap64 (aa + 1))))) = some r := H;have bv := Aside0.mk bu;clear bu
           by_cases bg : bs = true
           · subst bg
             have H1 : (qu.l0 k2 a0 ac (wrap64 (aa + 1))) = some r := by rw [if_pos rfl] at H; exact H
             clear H;have H := H1;clear H1;have H' := Aside0.mk H;clear H;have ae : 0 ≤ (aa : Int) := of_decide_eq_true (by first | (with_reducible assumption) | assumption);have af : aa < (a0.size : Int) := of_decide_eq_true (by first | (with_reducible assumption) | assumption);have ao := zX a0 aa;replace ae := eq_true ae;replace af := eq_true af;have av : 0 ≤ (aa : Int) := of_decide_eq_true (by first | (with_reducible assumption) | assumption);have aw : aa < (a0.size : Int) := of_decide_eq_true (by first | (with_reducible assumption) | assumption);have bw := zX a0 aa;replace av := eq_true av;replace aw := eq_true aw
             go_wp2_with (first | (go_at_call 143; (with_reducible refine (qR.calls (bt a0 aa) true _ bv.out).mono ?_); rintro e w' ⟨rfl, ⟨nd, rfl⟩⟩))
             go_roundg k2
             case measure => have := ai.out; have := aj.out; omega
             case rel => exact ⟨(ac), (wrap64 (aa + 1)), (by first | rfl | (simp; done) | (simp [*]; done)), (by first | rfl | (simp; done) | (simp [*]; done)), H', ⟨by have := ai.out; have := aj.out; omega⟩, ⟨by repeat (first | (with_reducible first | exact HB.out | apply q8 | apply q9 | apply qb) | exact HB.out)⟩⟩
           · replace bg := Bool.eq_false_iff.mpr bg
             subst bg
             have H1 : (if ((bt a0 aa) = 95) then (qu.l0 k2 a0 ac (wrap64 (aa + 1))) else (qu.l0 k2 a0 false (wrap64 (aa + 1)))) = some r := by rw [if_neg (show ¬ (false = true) by decide)] at H; exact H
             clear H;have H := H1;clear H1
             by_cases ay : ((bt a0 aa) = 95)
             · rw [if_pos ay] at H
               have b5 : ((bt a0 aa) == 95) = true := beq_iff_eq.mpr ay;have b6 : ((bt a0 aa) != 95) = false := bne_eq_false_iff_eq.mpr ay;clear ay;have H' := Aside0.mk H;clear H;have ae : 0 ≤ (aa : Int) := of_decide_eq_true (by first | (with_reducible assumption) | assumption);have af : aa < (a0.size : Int) := of_decide_eq_true (by first | (with_reducible assumption) | assumption);have ao := zX a0 aa;replace ae := eq_true ae;replace af := eq_true af;have av : 0 ≤ (aa : Int) := of_decide_eq_true (by first | (with_reducible assumption) | assumption);have aw : aa < (a0.size : Int) := of_decide_eq_true (by first | (with_reducible assumption) | assumption);have bw := zX a0 aa;replace av := eq_true av;replace aw := eq_true aw
               go_wp2_with (first | (go_at_call 143; (with_reducible refine (qR.calls (bt a0 aa) false _ bv.out).mono ?_); rintro e w' ⟨rfl, ⟨nd, rfl⟩⟩; have p26 : 0 ≤ (aa : Int) := of_decide_eq_true (by first | (with_reducible assumption) | assumption); have a9 : aa < (a0.size : Int) := of_decide_eq_true (by first | (with_reducible assumption) | assumption); have cf := zX a0 aa; replace p26 := eq_true p26; replace a9 := eq_true a9))
               go_roundg k2
               case measure => have := ai.out; have := aj.out; omega
               case rel => exact ⟨(ac), (wrap64 (aa + 1)), (by first | rfl | (simp; done) | (simp [*]; done)), (by first | rfl | (simp; done) | (simp [*]; done)), H', ⟨by have := ai.out; have := aj.out; omega⟩, ⟨by repeat (first | (with_reducible first | exact HB.out | apply q8 | apply q9 | apply qb) | exact HB.out)⟩⟩
             · rw [if_neg ay] at H
               have b5 : ((bt a0 aa) == 95) = false := beq_eq_false_iff_ne.mpr ay;have b6 : ((bt a0 aa) != 95) = true := bne_iff_ne.mpr ay;have H' := Aside0.mk H;clear H;have ae : 0 ≤ (aa : Int) := of_decide_eq_true (by first | (with_reducible assumption) | assumption);have af : aa < (a0.size : Int) := of_decide_eq_true (by first | (with_reducible assumption) | assumption);have ao := zX a0 aa;replace ae := eq_true ae;replace af := eq_true af;have av : 0 ≤ (aa : Int) := of_decide_eq_true (by first | (with_reducible assumption) | assumption);have aw : aa < (a0.size : Int) := of_decide_eq_true (by first | (with_reducible assumption) | assumption);have bw := zX a0 aa;replace av := eq_true av;replace aw := eq_true aw
               go_wp2_with (first | (go_at_call 143; (with_reducible refine (qR.calls (bt a0 aa) false _ bv.out).mono ?_); rintro e w' ⟨rfl, ⟨nd, rfl⟩⟩; have p26 : 0 ≤ (aa : Int) := of_decide_eq_true (by first | (with_reducible assumption) | assumption); have a9 : aa < (a0.size : Int) := of_decide_eq_true (by first | (with_reducible assumption) | assumption); have cf := zX a0 aa; replace p26 := eq_true p26; replace a9 := eq_true a9))
               go_roundg k2
               case measure => have := ai.out; have := aj.out; omega
               case rel => exact ⟨(false), (wrap64 (aa + 1)), (by first | rfl | (simp; done) | (simp [*]; done)), (by first | rfl | (simp; done) | (simp [*]; done)), H', ⟨by have := ai.out; have := aj.out; omega⟩, ⟨by repeat (first | (with_reducible first | exact HB.out | apply q8 | apply q9 | apply qb) | exact HB.out)⟩⟩
       · rw [if_neg bd] at H
         exact absurd H (by simp)
     · rw [if_neg az] at H
       have b0 : decide (aa < (a0.size : Int)) = false := decide_eq_false az;clear az
       by_cases bh : ac = true
       · subst bh
         have H1 : (some a0) = some r := by rw [if_pos rfl] at H; exact H
         clear H;have H := H1;clear H1;obtain rfl := Option.some.inj H;go_wp2
         go_ret
         exact ⟨by first | rfl | (simp [qm, qn] <;> rfl) | (simp [*, qm, qn] <;> rfl), by repeat (first | (with_reducible first | exact HB.out | apply q8 | apply q9 | apply qb) | exact HB.out)⟩
       · replace bh := Bool.eq_false_iff.mpr bh
         subst bh
         have H1 : ((qG.f k2 a0 34).bind fun a6 => (some a6)) = some r := by rw [if_neg (show ¬ (false = true) by decide)] at H; exact H
         clear H;have H := H1;clear H1;replace H := Option.bind_eq_some_iff.mp H;obtain ⟨a6, bz, H⟩ := H;replace H : (some a6) = some r := H;have ch := Aside0.mk bz;clear bz;obtain rfl := Option.some.inj H
         go_wp2_with (first | ((with_reducible refine qI (f := 113) rfl ?_); refine zh (some 52) rfl rfl Tryz.func113 (by kernel_rfl) rfl #[.string a0, .int .u8 34] rfl (by (try simp only [List.map_toArray, List.map_cons, List.map_nil]); first | done | rfl | (simp only [List.length_drop, List.length_take]; rfl)) ?_; (with_reducible refine (qG.calls k2 a0 34 a6 _ ch.out).mono ?_); rintro e cq ⟨rfl, hb⟩; refine ⟨_, rfl, ?_⟩; replace HB := Aside0.mk (qr (by repeat (first | (with_reducible first | exact HB.out | apply q8 | apply q9 | apply qb) | exact HB.out)) hb); (try clear hb); (try clear cb); (try clear hk); (try clear hi)))
         go_ret
         exact ⟨by first | rfl | (simp [qm, qn] <;> rfl) | (simp [*, qm, qn] <;> rfl), by repeat (first | (with_reducible first | exact HB.out | apply q8 | apply q9 | apply qb) | exact HB.out)⟩
def zc.f (ab : Int) (ac : Int) (ae : Int) (af : ByteArray) (aa : List (S130)) : Option (Bool) := if ab = 8 then (if 0 < (aa.length : Int) then (if ((qA aa 0).f0.f0) = 26 then (some true) else (if ((qA aa 0).f0.f0) = 27 then (some true) else (some (((qA aa 0).f0.f0) == 25)))) else (none)) else (some false)
set_option maxHeartbeats 8000000 in
set_option maxRecDepth 100000 in
theorem zc.calls (aj : Int) (ao : Int) (ap : Int) (au : ByteArray) (av : Option Addr) (aw : Nat) (ac : List (S130)) (r : Bool) (w : World) (a8 : Kd.C k130 w av ac.length ac) (a9 : ac.length ≤ aw) (h : zc.f aj ao ap au ac = some r) :
 Calls Tryz.prog 111 #[.agg #[.int .i64 aj, .int .i64 ao, .int .i64 ap, .string au, .slice av ac.length aw]] w fun e w' => e = .returned (.bool r) ∧ Below w.heap.size w w' := by
 have cv := Tryz.underlying130;have a1 := Aside0.mk a8;have cw := Aside0.mk a9;clear a8 a9;have HB := Aside0.mk (Below.refl w.heap.size w);have H : (if aj = 8 then (if 0 < (ac.length : Int) then (if ((qA ac 0).f0.f0) = 26 then (some true) else (if ((qA ac 0).f0.f0) = 27 then (some true) else (some (((qA ac 0).f0.f0) == 25)))) else (none)) else (some false)) = some r := h;clear h
 by_cases c2 : aj = 8
 · rw [if_pos c2] at H
   have bf : (aj == 8) = true := beq_iff_eq.mpr c2;have bg : (aj != 8) = false := bne_eq_false_iff_eq.mpr c2;clear c2
   by_cases c3 : 0 < (ac.length : Int)
   · rw [if_pos c3] at H
     have cx : decide (0 < (ac.length : Int)) = true := decide_eq_true c3;have cy : decide (0 < ac.length) = true := decide_eq_true (by omega);clear c3
     by_cases c4 : ((qA ac 0).f0.f0) = 26
     · rw [if_pos c4] at H
       have bh : (((qA ac 0).f0.f0) == 26) = true := beq_iff_eq.mpr c4;have bi : (((qA ac 0).f0.f0) != 26) = false := bne_eq_false_iff_eq.mpr c4;clear c4;obtain rfl := Option.some.inj H
       go_enter Tryz.func111, Tryz.ntmps111
       go_wp2_with (first | ((with_reducible refine qU (N := 1) rfl ?_); refine qQ ?hg (N := 1) ?hd (cs := #[.int .i64 aj, .int .i64 ao, .int .i64 ap, .string au, .slice av ac.length aw]) (t := 130) ?hr ?_; (case hd => rfl); (case hg => rfl); (case hr => first | (go_simp; done) | (go_simp; rfl)); intro ab hg w5 hbox hb; have aa := Aside0.mk (hbox); have a2 := Aside0.mk ((by rw [hg]; exact (qw (by repeat (first | (with_reducible first | exact HB.out | apply q8 | apply q9 | apply qb) | exact HB.out))) : w.heap.size ≤ ab)); have ax := Aside0.mk ((by rw [hg]; exact (qw (by repeat (first | (with_reducible first | exact HB.out | apply q8 | apply q9 | apply qb) | exact HB.out))) : w.heap.size ≤ ab)); replace HB := Aside0.mk (qr (by repeat (first | (with_reducible first | exact HB.out | apply q8 | apply q9 | apply qb) | exact HB.out)) hb); clear hb hbox hg; have b8 : w5.cell? ⟨ab, 0, none⟩ = some (.int .i64 aj) := (qa aa.out 0).trans rfl; have b9 : w5.cell? ⟨ab, 1, none⟩ = some (.int .i64 ao) := (qa aa.out 1).trans rfl; have cb : w5.cell? ⟨ab, 2, none⟩ = some (.int .i64 ap) := (qa aa.out 2).trans rfl; have cc : w5.cell? ⟨ab, 3, none⟩ = some (.string au) := (qa aa.out 3).trans rfl; have cd : w5.cell? ⟨ab, 4, none⟩ = some (.slice av ac.length aw) := (qa aa.out 4).trans rfl; have ce := qc aa.out 0; have cf := qc aa.out 1; have cg := qc aa.out 2; have ch := qc aa.out 3; have ci := qc aa.out 4; have am : 0 ≤ (0 : Int) := (by omega); have an : 0 < (ac.length : Int) := of_decide_eq_true (by first | (with_reducible assumption) | assumption); obtain ⟨ba, a3, a4, ay, ae, af, ag, ah, ai, ak, al⟩ := vh a1.out 0 am an; cases ay; have bb : (0 < ac.length) = True := eq_true (by omega); (try rw [show ((0 : Int)).toNat = 0 from rfl] at ae); (try rw [show 0 * 5 = 0 from rfl] at ae); (try rw [Addr.add_zero'] at ae); (try rw [show ((0 : Int)).toNat = 0 from rfl] at af); (try rw [show 0 * 5 = 0 from rfl] at af); (try rw [Addr.add_zero'] at af); (try rw [show ((0 : Int)).toNat = 0 from rfl] at ag); (try rw [show 0 * 5 = 0 from rfl] at ag); (try rw [Addr.add_zero'] at ag); (try rw [show ((0 : Int)).toNat = 0 from rfl] at ah); (try rw [show 0 * 5 = 0 from rfl] at ah); (try rw [Addr.add_zero'] at ah); (try rw [show ((0 : Int)).toNat = 0 from rfl] at ai); (try rw [show 0 * 5 = 0 from rfl] at ai); (try rw [Addr.add_zero'] at ai); replace ae := (HB.out.cell (World.block_lt_of_cell? w _ ae)).trans ae; replace af := (HB.out.cell (World.block_lt_of_cell? w _ af)).trans af; replace ag := (HB.out.cell (World.block_lt_of_cell? w _ ag)).trans ag; replace ah := (HB.out.cell (World.block_lt_of_cell? w _ ah)).trans ah; replace ai := (HB.out.cell (World.block_lt_of_cell? w _ ai)).trans ai; have az := Aside0.mk al; have a0 := Aside0.mk ak; clear al ak; replace am := eq_true am; replace an := eq_true an))
       go_ret
       exact ⟨by first | rfl | (simp [qm, qn] <;> rfl) | (simp [*, qm, qn] <;> rfl), by repeat (first | (with_reducible first | exact HB.out | apply q8 | apply q9 | apply qb | refine qg ?_ ax.out) | exact HB.out)⟩
     · rw [if_neg c4] at H
       have bh : (((qA ac 0).f0.f0) == 26) = false := beq_eq_false_iff_ne.mpr c4;have bi : (((qA ac 0).f0.f0) != 26) = true := bne_iff_ne.mpr c4
       by_cases c7 : ((qA ac 0).f0.f0) = 27
       · rw [if_pos c7] at H
         have bj : (((qA ac 0).f0.f0) == 27) = true := beq_iff_eq.mpr c7;have bk : (((qA ac 0).f0.f0) != 27) = false := bne_eq_false_iff_eq.mpr c7;clear c7;obtain rfl := Option.some.inj H
         go_enter Tryz.func111, Tryz.ntmps111
         go_wp2_with (first | ((with_reducible refine qU (N := 1) rfl ?_); refine qQ ?hg (N := 1) ?hd (cs := #[.int .i64 aj, .int .i64 ao, .int .i64 ap, .string au, .slice av ac.length aw]) (t := 130) ?hr ?_; (case hd => rfl); (case hg => rfl); (case hr => first | (go_simp; done) | (go_simp; rfl)); intro ab hg w8 hbox hb; have aa := Aside0.mk (hbox); have a2 := Aside0.mk ((by rw [hg]; exact (qw (by repeat (first | (with_reducible first | exact HB.out | apply q8 | apply q9 | apply qb) | exact HB.out))) : w.heap.size ≤ ab)); have ax := Aside0.mk ((by rw [hg]; exact (qw (by repeat (first | (with_reducible first | exact HB.out | apply q8 | apply q9 | apply qb) | exact HB.out))) : w.heap.size ≤ ab)); replace HB := Aside0.mk (qr (by repeat (first | (with_reducible first | exact HB.out | apply q8 | apply q9 | apply qb) | exact HB.out)) hb); clear hb hbox hg; have cj : w8.cell? ⟨ab, 0, none⟩ = some (.int .i64 aj) := (qa aa.out 0).trans rfl; have ck : w8.cell? ⟨ab, 1, none⟩ = some (.int .i64 ao) := (qa aa.out 1).trans rfl; have cm : w8.cell? ⟨ab, 2, none⟩ = some (.int .i64 ap) := (qa aa.out 2).trans rfl; have cn : w8.cell? ⟨ab, 3, none⟩ = some (.string au) := (qa aa.out 3).trans rfl; have co : w8.cell? ⟨ab, 4, none⟩ = some (.slice av ac.length aw) := (qa aa.out 4).trans rfl; have cp := qc aa.out 0; have cq := qc aa.out 1; have cr := qc aa.out 2; have ct := qc aa.out 3; have cu := qc aa.out 4; have am : 0 ≤ (0 : Int) := (by omega); have an : 0 < (ac.length : Int) := of_decide_eq_true (by first | (with_reducible assumption) | assumption); obtain ⟨ba, a3, a4, ay, ae, af, ag, ah, ai, ak, al⟩ := vh a1.out 0 am an; cases ay; have bb : (0 < ac.length) = True := eq_true (by omega); (try rw [show ((0 : Int)).toNat = 0 from rfl] at ae); (try rw [show 0 * 5 = 0 from rfl] at ae); (try rw [Addr.add_zero'] at ae); (try rw [show ((0 : Int)).toNat = 0 from rfl] at af); (try rw [show 0 * 5 = 0 from rfl] at af); (try rw [Addr.add_zero'] at af); (try rw [show ((0 : Int)).toNat = 0 from rfl] at ag); (try rw [show 0 * 5 = 0 from rfl] at ag); (try rw [Addr.add_zero'] at ag); (try rw [show ((0 : Int)).toNat = 0 from rfl] at ah); (try rw [show 0 * 5 = 0 from rfl] at ah); (try rw [Addr.add_zero'] at ah); (try rw [show ((0 : Int)).toNat = 0 from rfl] at ai); (try rw [show 0 * 5 = 0 from rfl] at ai); (try rw [Addr.add_zero'] at ai); replace ae := (HB.out.cell (World.block_lt_of_cell? w _ ae)).trans ae; replace af := (HB.out.cell (World.block_lt_of_cell? w _ af)).trans af; replace ag := (HB.out.cell (World.block_lt_of_cell? w _ ag)).trans ag; replace ah := (HB.out.cell (World.block_lt_of_cell? w _ ah)).trans ah; replace ai := (HB.out.cell (World.block_lt_of_cell? w _ ai)).trans ai; have az := Aside0.mk al; have a0 := Aside0.mk ak; clear al ak; replace am := eq_true am; replace an := eq_true an))
         go_ret
         exact ⟨by first | rfl | (simp [qm, qn] <;> rfl) | (simp [*, qm, qn] <;> rfl), by repeat (first | (with_reducible first | exact HB.out | apply q8 | apply q9 | apply qb | refine qg ?_ ax.out) | exact HB.out)⟩
       · rw [if_neg c7] at H
         have bj : (((qA ac 0).f0.f0) == 27) = false := beq_eq_false_iff_ne.mpr c7;have bk : (((qA ac 0).f0.f0) != 27) = true := bne_iff_ne.mpr c7;obtain rfl := Option.some.inj H
         go_enter Tryz.func111, Tryz.ntmps111
         go_wp2_with (first | ((with_reducible refine qU (N := 1) rfl ?_); refine qQ ?hg (N := 1) ?hd (cs := #[.int .i64 aj, .int .i64 ao, .int .i64 ap, .string au, .slice av ac.length aw]) (t := 130) ?hr ?_; (case hd => rfl); (case hg => rfl); (case hr => first | (go_simp; done) | (go_simp; rfl)); intro ab hg a5 hbox hb; have aa := Aside0.mk (hbox); have a2 := Aside0.mk ((by rw [hg]; exact (qw (by repeat (first | (with_reducible first | exact HB.out | apply q8 | apply q9 | apply qb) | exact HB.out))) : w.heap.size ≤ ab)); have ax := Aside0.mk ((by rw [hg]; exact (qw (by repeat (first | (with_reducible first | exact HB.out | apply q8 | apply q9 | apply qb) | exact HB.out))) : w.heap.size ≤ ab)); replace HB := Aside0.mk (qr (by repeat (first | (with_reducible first | exact HB.out | apply q8 | apply q9 | apply qb) | exact HB.out)) hb); clear hb hbox hg; have bl : a5.cell? ⟨ab, 0, none⟩ = some (.int .i64 aj) := (qa aa.out 0).trans rfl; have bm : a5.cell? ⟨ab, 1, none⟩ = some (.int .i64 ao) := (qa aa.out 1).trans rfl; have bn : a5.cell? ⟨ab, 2, none⟩ = some (.int .i64 ap) := (qa aa.out 2).trans rfl; have bo : a5.cell? ⟨ab, 3, none⟩ = some (.string au) := (qa aa.out 3).trans rfl; have bp : a5.cell? ⟨ab, 4, none⟩ = some (.slice av ac.length aw) := (qa aa.out 4).trans rfl; have bq := qc aa.out 0; have br := qc aa.out 1; have bs := qc aa.out 2; have bu := qc aa.out 3; have bv := qc aa.out 4; have am : 0 ≤ (0 : Int) := (by omega); have an : 0 < (ac.length : Int) := of_decide_eq_true (by first | (with_reducible assumption) | assumption); obtain ⟨ba, a3, a4, ay, ae, af, ag, ah, ai, ak, al⟩ := vh a1.out 0 am an; cases ay; have bb : (0 < ac.length) = True := eq_true (by omega); (try rw [show ((0 : Int)).toNat = 0 from rfl] at ae); (try rw [show 0 * 5 = 0 from rfl] at ae); (try rw [Addr.add_zero'] at ae); (try rw [show ((0 : Int)).toNat = 0 from rfl] at af); (try rw [show 0 * 5 = 0 from rfl] at af); (try rw [Addr.add_zero'] at af); (try rw [show ((0 : Int)).toNat = 0 from rfl] at ag); (try rw [show 0 * 5 = 0 from rfl] at ag); (try rw [Addr.add_zero'] at ag); (try rw [show ((0 : Int)).toNat = 0 from rfl] at ah); (try rw [show 0 * 5 = 0 from rfl] at ah); (try rw [Addr.add_zero'] at ah); (try rw [show ((0 : Int)).toNat = 0 from rfl] at ai); (try rw [show 0 * 5 = 0 from rfl] at ai); (try rw [Addr.add_zero'] at ai); replace ae := (HB.out.cell (World.block_lt_of_cell? w _ ae)).trans ae; replace af := (HB.out.cell (World.block_lt_of_cell? w _ af)).trans af; replace ag := (HB.out.cell (World.block_lt_of_cell? w _ ag)).trans ag; replace ah := (HB.out.cell (World.block_lt_of_cell? w _ ah)).trans ah; replace ai := (HB.out.cell (World.block_lt_of_cell? w _ ai)).trans ai; have az := Aside0.mk al; have a0 := Aside0.mk ak; clear al ak; replace am := eq_true am; replace an := eq_true an))
         go_ret
         exact ⟨by first | rfl | (simp [qm, qn] <;> rfl) | (simp [*, qm, qn] <;> rfl), by repeat (first | (with_reducible first | exact HB.out | apply q8 | apply q9 | apply qb | refine qg ?_ ax.out) | exact HB.out)⟩
   · rw [if_neg c3] at H
     exact absurd H (by simp)
 · rw [if_neg c2] at H
   have bf : (aj == 8) = false := beq_eq_false_iff_ne.mpr c2;have bg : (aj != 8) = true := bne_iff_ne.mpr c2;obtain rfl := Option.some.inj H
   go_enter Tryz.func111, Tryz.ntmps111
   go_wp2_with (first | ((with_reducible refine qU (N := 1) rfl ?_); refine qQ ?hg (N := 1) ?hd (cs := #[.int .i64 aj, .int .i64 ao, .int .i64 ap, .string au, .slice av ac.length aw]) (t := 130) ?hr ?_; (case hd => rfl); (case hg => rfl); (case hr => first | (go_simp; done) | (go_simp; rfl)); intro ab hg a6 hbox hb; have aa := Aside0.mk (hbox); have a2 := Aside0.mk ((by rw [hg]; exact (qw (by repeat (first | (with_reducible first | exact HB.out | apply q8 | apply q9 | apply qb) | exact HB.out))) : w.heap.size ≤ ab)); have ax := Aside0.mk ((by rw [hg]; exact (qw (by repeat (first | (with_reducible first | exact HB.out | apply q8 | apply q9 | apply qb) | exact HB.out))) : w.heap.size ≤ ab)); replace HB := Aside0.mk (qr (by repeat (first | (with_reducible first | exact HB.out | apply q8 | apply q9 | apply qb) | exact HB.out)) hb); clear hb hbox hg; have bw : a6.cell? ⟨ab, 0, none⟩ = some (.int .i64 aj) := (qa aa.out 0).trans rfl; have bz : a6.cell? ⟨ab, 1, none⟩ = some (.int .i64 ao) := (qa aa.out 1).trans rfl; have b0 : a6.cell? ⟨ab, 2, none⟩ = some (.int .i64 ap) := (qa aa.out 2).trans rfl; have b1 : a6.cell? ⟨ab, 3, none⟩ = some (.string au) := (qa aa.out 3).trans rfl; have b2 : a6.cell? ⟨ab, 4, none⟩ = some (.slice av ac.length aw) := (qa aa.out 4).trans rfl; have b3 := qc aa.out 0; have b4 := qc aa.out 1; have b5 := qc aa.out 2; have b6 := qc aa.out 3; have b7 := qc aa.out 4))
   go_ret
   exact ⟨by first | rfl | (simp [qm, qn] <;> rfl) | (simp [*, qm, qn] <;> rfl), by repeat (first | (with_reducible first | exact HB.out | apply q8 | apply q9 | apply qb | refine qg ?_ ax.out) | exact HB.out)⟩
end Go.Proofs.YtfmgbgkcmmpcfaaGreatDoor.PTk

