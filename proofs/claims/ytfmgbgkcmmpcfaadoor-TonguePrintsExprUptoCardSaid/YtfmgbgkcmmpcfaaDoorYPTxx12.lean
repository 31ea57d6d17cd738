import Derived.Test.YtfmgbgkcmmpcfaaDoorYPTxx0
import Derived.Test.YtfmgbgkcmmpcfaaDoorYPTxx10
import Derived.Test.YtfmgbgkcmmpcfaaDoorYPTxx11
namespace Go.Proofs.YtfmgbgkcmmpcfaaDoor.PTx
open Go.RowKit Go.Proofs.YtfmgbgkcmmpcfaaDoorW.PrintWords Go.Proofs.YtfmgbgkcmmpcfaaDoorW.PrintLast Go.Proofs.YtfmgbgkcmmpcfaaDoorW.PrintMore
attribute [local go_sem] zu zC
set_option linter.unusedVariables false
set_option linter.unusedSimpArgs false
mutual
def qn.l0 : Nat → Int → Int → Int → Int → Int → ByteArray → List (S37) → Option (Int)
 | 0, _, _, _, _, _, _, _ => none
 | k + 1, x5, x6, x162000, x162001, x162002, x162003, x162004 => if x6 < (x162004.length : Int) then (if 0 ≤ x6 then ((qm.f k x162000 x6).bind fun t168 => ((qn.f k ((qu x162004 x6).f0.f0) ((qu x162004 x6).f0.f1) ((qu x162004 x6).f0.f2) ((qu x162004 x6).f0.f3) ((qu x162004 x6).f1) t168).bind fun t169 => (if x162000 = 8 then (qn.l0 k (mx x5 (wrap64 (t169 + 1))) (wrap64 (x6 + 1)) x162000 x162001 x162002 x162003 x162004) else (if x162000 = 7 then (qn.l0 k (mx x5 (wrap64 (t169 + 1))) (wrap64 (x6 + 1)) x162000 x162001 x162002 x162003 x162004) else (if x162000 = 28 then (qn.l0 k (mx x5 (wrap64 (t169 + 1))) (wrap64 (x6 + 1)) x162000 x162001 x162002 x162003 x162004) else (if x162000 = 29 then (qn.l0 k (mx x5 (wrap64 (t169 + 1))) (wrap64 (x6 + 1)) x162000 x162001 x162002 x162003 x162004) else (if x162000 = 27 then (if x6 > 0 then (qn.l0 k (mx x5 (wrap64 (t169 + 1))) (wrap64 (x6 + 1)) x162000 x162001 x162002 x162003 x162004) else (qn.l0 k (mx x5 t169) (wrap64 (x6 + 1)) x162000 x162001 x162002 x162003 x162004)) else (qn.l0 k (mx x5 t169) (wrap64 (x6 + 1)) x162000 x162001 x162002 x162003 x162004)))))))) else (none)) else (some x5)
def qn.f : Nat → Int → Int → Int → ByteArray → List (S37) → Int → Option (Int)
 | 0, _, _, _, _, _, _ => none
 | k + 1, a0_0, a0_1, a0_2, a0_3, l0_4, a1 => (qp.f k a0_0 a0_1 a0_2 a0_3 l0_4).bind fun t162 => (if t162 < a1 then ((qn.f k a0_0 a0_1 a0_2 a0_3 l0_4 0).bind fun t163 => (some (wrap64 (1 + t163)))) else ((qW.f a0_0 a0_1 a0_2 a0_3 l0_4).bind fun t164 => (if t164 = true then (if 0 < (l0_4.length : Int) then ((qn.f k ((qu l0_4 0).f0.f0) ((qu l0_4 0).f0.f1) ((qu l0_4 0).f0.f2) ((qu l0_4 0).f0.f3) ((qu l0_4 0).f1) 0).bind fun t166 => (some t166)) else (none)) else (qn.l0 k 0 0 a0_0 a0_1 a0_2 a0_3 l0_4))))
end
def qn.T9 : Bool × List (List Nat × List Nat) := (true, [([], []), ([0], [0]), ([], []), ([1, 2], [1, 2]), ([3], [3]), ([], []), ([5], [5]), ([6], [6]), ([], []), ([7, 8], [7, 8]), ([4, 9, 9], [4, 9]), ([10, 10, 0, 1, 2, 3, 4, 5, 6, 7, 8, 9, 10], [10])])
def qn.B9 : List Nat := [0, 1, 0, 7, 15, 0, 32, 96, 0, 480, 1023, 2047]
theorem qn.tab9 : rtab .any (opsOf Tryd.f9 9) = qn.T9 := by kernel_rfl
theorem qn.bits9 : xv qn.T9.2 qn.B9 = true := by kernel_rfl
set_option maxHeartbeats 8000000 in
set_option maxRecDepth 100000 in
theorem qn.calls (k : Nat) : ∀ (af : Int) (ah : Int) (ai : Int) (aj : ByteArray) (a6 : Option Addr) (ay : Nat) (ab : List (S37)) (a1 : Int) (r : Int) (w : World) (co : Kd.C k37 w a6 ab.length ab) (cp : ab.length ≤ ay) (h : qn.f k af ah ai aj ab a1 = some r),
 Calls Tryd.prog 9 #[.agg #[.int .i64 af, .int .i64 ah, .int .i64 ai, .string aj, .slice a6 ab.length ay], .int .i64 a1] w fun e w' => e = .returned (.int .i64 r) ∧ Below w.heap.size w w' := by
 induction k using Nat.strongRecOn with
 | _ k ih =>
 intro af ah ai aj a6 ay ab a1 r w co cp h
 cases k with
 | zero => exact absurd h (by simp [qn.f])
 | succ k =>
 simp only [qn.f] at h;have l1 := Tryd.underlying37;have bf := Aside0.mk co;have ca := Aside0.mk cp;clear co cp;have HB := Aside0.mk (Below.refl w.heap.size w);have H : ((qp.f k af ah ai aj ab).bind fun b7 => (if b7 < a1 then ((qn.f k af ah ai aj ab 0).bind fun cd => (some (wrap64 (1 + cd)))) else ((qW.f af ah ai aj ab).bind fun ce => (if ce = true then (if 0 < (ab.length : Int) then ((qn.f k ((qu ab 0).f0.f0) ((qu ab 0).f0.f1) ((qu ab 0).f0.f2) ((qu ab 0).f0.f3) ((qu ab 0).f1) 0).bind fun bs => (some bs)) else (none)) else (qn.l0 k 0 0 af ah ai aj ab))))) = some r := h;clear h;replace H := Option.bind_eq_some_iff.mp H;obtain ⟨b7, bo, H⟩ := H;replace H : (if b7 < a1 then ((qn.f k af ah ai aj ab 0).bind fun cd => (some (wrap64 (1 + cd)))) else ((qW.f af ah ai aj ab).bind fun ce => (if ce = true then (if 0 < (ab.length : Int) then ((qn.f k ((qu ab 0).f0.f0) ((qu ab 0).f0.f1) ((qu ab 0).f0.f2) ((qu ab 0).f0.f3) ((qu ab 0).f1) 0).bind fun bs => (some bs)) else (none)) else (qn.l0 k 0 0 af ah ai aj ab)))) = some r := H;have A3 := Aside0.mk bo;clear bo
 by_cases c4 : b7 < a1
 · rw [if_pos c4] at H
   have fc : decide (b7 < a1) = true := decide_eq_true c4;clear c4;replace H := Option.bind_eq_some_iff.mp H;obtain ⟨cd, gw, H⟩ := H;replace H : (some (wrap64 (1 + cd))) = some r := H;have A5 := Aside0.mk gw;clear gw;obtain rfl := Option.some.inj H
   go_enter Tryd.func9, Tryd.ntmps9
   go_wp2_with (first | ((with_reducible refine qP (N := 2) rfl ?_); refine qM ?hg (N := 2) ?hd (cs := #[.int .i64 af, .int .i64 ah, .int .i64 ai, .string aj, .slice a6 ab.length ay]) (t := 37) ?hr ?_; (case hd => rfl); (case hg => rfl); (case hr => first | (go_simp; done) | (go_simp; rfl)); intro ae hg w6 hbox hb; have aa := Aside0.mk (hbox); have dm := Aside0.mk ((by rw [hg]; exact (qt (by repeat (first | (with_reducible first | exact HB.out | apply qa | apply q8 | apply qb) | exact HB.out))) : w.heap.size ≤ ae)); have a0 := Aside0.mk ((by rw [hg]; exact (qt (by repeat (first | (with_reducible first | exact HB.out | apply qa | apply q8 | apply qb) | exact HB.out))) : w.heap.size ≤ ae)); replace HB := Aside0.mk (qk (by repeat (first | (with_reducible first | exact HB.out | apply qa | apply q8 | apply qb) | exact HB.out)) hb); clear hb hbox hg; have ff : w6.cell? ⟨ae, 0, none⟩ = some (.int .i64 af) := (q9 aa.out 0).trans rfl; have fg : w6.cell? ⟨ae, 1, none⟩ = some (.int .i64 ah) := (q9 aa.out 1).trans rfl; have fh : w6.cell? ⟨ae, 2, none⟩ = some (.int .i64 ai) := (q9 aa.out 2).trans rfl; have fi : w6.cell? ⟨ae, 3, none⟩ = some (.string aj) := (q9 aa.out 3).trans rfl; have fj : w6.cell? ⟨ae, 4, none⟩ = some (.slice a6 ab.length ay) := (q9 aa.out 4).trans rfl; have fk := qc aa.out 0; have fl := qc aa.out 1; have fm := qc aa.out 2; have fn := qc aa.out 3; have fo := qc aa.out 4) | ((with_reducible refine qG (f := 15) rfl ?_); refine zc (some 10) rfl rfl Tryd.func15 (by kernel_rfl) rfl #[.agg #[.int .i64 af, .int .i64 ah, .int .i64 ai, .string aj, .slice a6 ab.length ay]] rfl (by (try simp only [List.map_toArray, List.map_cons, List.map_nil]); first | done | rfl | (simp only [List.length_drop, List.length_take]; rfl)) ?_; (with_reducible refine (qp.calls k af ah ai aj _ _ ab b7 _ ?side1 ?side2 A3.out).mono ?_); (case side1 => repeat (first | exact (Kd.C_below bf.out HB.out) | (with_reducible refine Kd.C_alloc ?_ _) | (with_reducible refine Kd.C_drewN ?_ _) | (with_reducible refine Kd.C_drew ?_))); (case side2 => exact ca.out); rintro e w8 ⟨rfl, hb⟩; refine ⟨_, rfl, ?_⟩; replace aa := Aside0.mk (qA (g := ae) (o := .cells #[.int .i64 af, .int .i64 ah, .int .i64 ai, .string aj, .slice a6 ab.length ay] 37 (0, 0)) (by (with_reducible repeat (first | refine qe ?_ _ | refine qg ?_ | refine qd ?_ _)); exact aa.out) hb); replace HB := Aside0.mk (qk (by repeat (first | (with_reducible first | exact HB.out | apply qa | apply q8 | apply qb | refine qf ?_ a0.out) | exact HB.out)) hb); (try clear hb); (try clear bu); (try clear hk); (try clear hi); have fq : w8.cell? ⟨ae, 0, none⟩ = some (.int .i64 af) := (q9 aa.out 0).trans rfl; have fr : w8.cell? ⟨ae, 1, none⟩ = some (.int .i64 ah) := (q9 aa.out 1).trans rfl; have ft : w8.cell? ⟨ae, 2, none⟩ = some (.int .i64 ai) := (q9 aa.out 2).trans rfl; have fu : w8.cell? ⟨ae, 3, none⟩ = some (.string aj) := (q9 aa.out 3).trans rfl; have fv : w8.cell? ⟨ae, 4, none⟩ = some (.slice a6 ab.length ay) := (q9 aa.out 4).trans rfl; have fw := qc aa.out 0; have fx := qc aa.out 1; have fy := qc aa.out 2; have fz := qc aa.out 3; have f4 := qc aa.out 4) | ((with_reducible refine qG (f := 9) rfl ?_); refine zc (some 14) rfl rfl Tryd.func9 (by kernel_rfl) rfl #[.agg #[.int .i64 af, .int .i64 ah, .int .i64 ai, .string aj, .slice a6 ab.length ay], .int .i64 0] rfl (by (try simp only [List.map_toArray, List.map_cons, List.map_nil]); first | done | rfl | (simp only [List.length_drop, List.length_take]; rfl)) ?_; (with_reducible refine (ih k (by omega) af ah ai aj _ _ ab 0 cd _ ?side1 ?side2 A5.out).mono ?_); (case side1 => repeat (first | exact (Kd.C_below bf.out HB.out) | (with_reducible refine Kd.C_alloc ?_ _) | (with_reducible refine Kd.C_drewN ?_ _) | (with_reducible refine Kd.C_drew ?_))); (case side2 => exact ca.out); rintro e l8 ⟨rfl, hb⟩; refine ⟨_, rfl, ?_⟩; replace aa := Aside0.mk (qA (g := ae) (o := .cells #[.int .i64 af, .int .i64 ah, .int .i64 ai, .string aj, .slice a6 ab.length ay] 37 (0, 0)) (by (with_reducible repeat (first | refine qe ?_ _ | refine qg ?_ | refine qd ?_ _)); exact aa.out) hb); replace HB := Aside0.mk (qk (by repeat (first | (with_reducible first | exact HB.out | apply qa | apply q8 | apply qb | refine qf ?_ a0.out) | exact HB.out)) hb); (try clear hb); (try clear bu); (try clear hk); (try clear hi)))
   go_ret
   exact ⟨by first | rfl | (simp [qq, qr] <;> rfl) | (simp [*, qq, qr] <;> rfl), by repeat (first | (with_reducible first | exact HB.out | apply qa | apply q8 | apply qb | refine qf ?_ a0.out) | exact HB.out)⟩
 · rw [if_neg c4] at H
   have fc : decide (b7 < a1) = false := decide_eq_false c4;clear c4;replace H := Option.bind_eq_some_iff.mp H;obtain ⟨ce, f5, H⟩ := H;replace H : (if ce = true then (if 0 < (ab.length : Int) then ((qn.f k ((qu ab 0).f0.f0) ((qu ab 0).f0.f1) ((qu ab 0).f0.f2) ((qu ab 0).f0.f3) ((qu ab 0).f1) 0).bind fun bs => (some bs)) else (none)) else (qn.l0 k 0 0 af ah ai aj ab)) = some r := H;have gx := Aside0.mk f5;clear f5
   by_cases cu : ce = true
   · subst cu
     have H1 : (if 0 < (ab.length : Int) then ((qn.f k ((qu ab 0).f0.f0) ((qu ab 0).f0.f1) ((qu ab 0).f0.f2) ((qu ab 0).f0.f3) ((qu ab 0).f1) 0).bind fun bs => (some bs)) else (none)) = some r := by rw [if_pos rfl] at H; exact H
     clear H;have H := H1;clear H1
     by_cases cv : 0 < (ab.length : Int)
     · rw [if_pos cv] at H
       have gf : decide (0 < (ab.length : Int)) = true := decide_eq_true cv;have gg : decide (0 < ab.length) = true := decide_eq_true (by omega);clear cv;replace H := Option.bind_eq_some_iff.mp H;obtain ⟨bs, f7, H⟩ := H;replace H : (some bs) = some r := H;have lx := Aside0.mk f7;clear f7;obtain rfl := Option.some.inj H
       go_enter Tryd.func9, Tryd.ntmps9
       go_wp2_with (first | ((with_reducible refine qP (N := 2) rfl ?_); refine qM ?hg (N := 2) ?hd (cs := #[.int .i64 af, .int .i64 ah, .int .i64 ai, .string aj, .slice a6 ab.length ay]) (t := 37) ?hr ?_; (case hd => rfl); (case hg => rfl); (case hr => first | (go_simp; done) | (go_simp; rfl)); intro ae hg cw hbox hb; have aa := Aside0.mk (hbox); have dm := Aside0.mk ((by rw [hg]; exact (qt (by repeat (first | (with_reducible first | exact HB.out | apply qa | apply q8 | apply qb) | exact HB.out))) : w.heap.size ≤ ae)); have a0 := Aside0.mk ((by rw [hg]; exact (qt (by repeat (first | (with_reducible first | exact HB.out | apply qa | apply q8 | apply qb) | exact HB.out))) : w.heap.size ≤ ae)); replace HB := Aside0.mk (qk (by repeat (first | (with_reducible first | exact HB.out | apply qa | apply q8 | apply qb) | exact HB.out)) hb); clear hb hbox hg; have dq : cw.cell? ⟨ae, 0, none⟩ = some (.int .i64 af) := (q9 aa.out 0).trans rfl; have dr : cw.cell? ⟨ae, 1, none⟩ = some (.int .i64 ah) := (q9 aa.out 1).trans rfl; have dt : cw.cell? ⟨ae, 2, none⟩ = some (.int .i64 ai) := (q9 aa.out 2).trans rfl; have du : cw.cell? ⟨ae, 3, none⟩ = some (.string aj) := (q9 aa.out 3).trans rfl; have dv : cw.cell? ⟨ae, 4, none⟩ = some (.slice a6 ab.length ay) := (q9 aa.out 4).trans rfl; have dw := qc aa.out 0; have dx := qc aa.out 1; have dy := qc aa.out 2; have dz := qc aa.out 3; have d0 := qc aa.out 4) | ((with_reducible refine qG (f := 15) rfl ?_); refine zc (some 10) rfl rfl Tryd.func15 (by kernel_rfl) rfl #[.agg #[.int .i64 af, .int .i64 ah, .int .i64 ai, .string aj, .slice a6 ab.length ay]] rfl (by (try simp only [List.map_toArray, List.map_cons, List.map_nil]); first | done | rfl | (simp only [List.length_drop, List.length_take]; rfl)) ?_; (with_reducible refine (qp.calls k af ah ai aj _ _ ab b7 _ ?side1 ?side2 A3.out).mono ?_); (case side1 => repeat (first | exact (Kd.C_below bf.out HB.out) | (with_reducible refine Kd.C_alloc ?_ _) | (with_reducible refine Kd.C_drewN ?_ _) | (with_reducible refine Kd.C_drew ?_))); (case side2 => exact ca.out); rintro e cx ⟨rfl, hb⟩; refine ⟨_, rfl, ?_⟩; replace aa := Aside0.mk (qA (g := ae) (o := .cells #[.int .i64 af, .int .i64 ah, .int .i64 ai, .string aj, .slice a6 ab.length ay] 37 (0, 0)) (by (with_reducible repeat (first | refine qe ?_ _ | refine qg ?_ | refine qd ?_ _)); exact aa.out) hb); replace HB := Aside0.mk (qk (by repeat (first | (with_reducible first | exact HB.out | apply qa | apply q8 | apply qb | refine qf ?_ a0.out) | exact HB.out)) hb); (try clear hb); (try clear bu); (try clear hk); (try clear hi); have d1 : cx.cell? ⟨ae, 0, none⟩ = some (.int .i64 af) := (q9 aa.out 0).trans rfl; have d3 : cx.cell? ⟨ae, 1, none⟩ = some (.int .i64 ah) := (q9 aa.out 1).trans rfl; have d4 : cx.cell? ⟨ae, 2, none⟩ = some (.int .i64 ai) := (q9 aa.out 2).trans rfl; have d5 : cx.cell? ⟨ae, 3, none⟩ = some (.string aj) := (q9 aa.out 3).trans rfl; have d6 : cx.cell? ⟨ae, 4, none⟩ = some (.slice a6 ab.length ay) := (q9 aa.out 4).trans rfl; have d7 := qc aa.out 0; have d8 := qc aa.out 1; have d9 := qc aa.out 2; have ea := qc aa.out 3; have eb := qc aa.out 4) | ((with_reducible refine qG (f := 16) rfl ?_); refine zc (some 17) rfl rfl Tryd.func16 (by kernel_rfl) rfl #[.agg #[.int .i64 af, .int .i64 ah, .int .i64 ai, .string aj, .slice a6 ab.length ay]] rfl (by (try simp only [List.map_toArray, List.map_cons, List.map_nil]); first | done | rfl | (simp only [List.length_drop, List.length_take]; rfl)) ?_; (with_reducible refine (qW.calls af ah ai aj _ _ ab true _ ?side1 ?side2 gx.out).mono ?_); (case side1 => repeat (first | exact (Kd.C_below bf.out HB.out) | (with_reducible refine Kd.C_alloc ?_ _) | (with_reducible refine Kd.C_drewN ?_ _) | (with_reducible refine Kd.C_drew ?_))); (case side2 => exact ca.out); rintro e cy ⟨rfl, hb⟩; refine ⟨_, rfl, ?_⟩; replace aa := Aside0.mk (qA (g := ae) (o := .cells #[.int .i64 af, .int .i64 ah, .int .i64 ai, .string aj, .slice a6 ab.length ay] 37 (0, 0)) (by (with_reducible repeat (first | refine qe ?_ _ | refine qg ?_ | refine qd ?_ _)); exact aa.out) hb); replace HB := Aside0.mk (qk (by repeat (first | (with_reducible first | exact HB.out | apply qa | apply q8 | apply qb | refine qf ?_ a0.out) | exact HB.out)) hb); (try clear hb); (try clear bu); (try clear hk); (try clear hi); have ec : cy.cell? ⟨ae, 0, none⟩ = some (.int .i64 af) := (q9 aa.out 0).trans rfl; have ed : cy.cell? ⟨ae, 1, none⟩ = some (.int .i64 ah) := (q9 aa.out 1).trans rfl; have ee : cy.cell? ⟨ae, 2, none⟩ = some (.int .i64 ai) := (q9 aa.out 2).trans rfl; have ef : cy.cell? ⟨ae, 3, none⟩ = some (.string aj) := (q9 aa.out 3).trans rfl; have eg : cy.cell? ⟨ae, 4, none⟩ = some (.slice a6 ab.length ay) := (q9 aa.out 4).trans rfl; have eh := qc aa.out 0; have ei := qc aa.out 1; have ej := qc aa.out 2; have ek := qc aa.out 3; have em := qc aa.out 4; have cq : 0 ≤ (0 : Int) := (by omega); have cr : 0 < (ab.length : Int) := of_decide_eq_true (by first | (with_reducible assumption) | assumption); obtain ⟨gh, f8, f9, gz, bh, bi, bj, bk, bl, cj, ck⟩ := xg bf.out 0 cq cr; cases gz; have ly : (0 < ab.length) = True := eq_true (by omega); (try rw [show ((0 : Int)).toNat = 0 from rfl] at bh); (try rw [show 0 * 5 = 0 from rfl] at bh); (try rw [Addr.add_zero'] at bh); (try rw [show ((0 : Int)).toNat = 0 from rfl] at bi); (try rw [show 0 * 5 = 0 from rfl] at bi); (try rw [Addr.add_zero'] at bi); (try rw [show ((0 : Int)).toNat = 0 from rfl] at bj); (try rw [show 0 * 5 = 0 from rfl] at bj); (try rw [Addr.add_zero'] at bj); (try rw [show ((0 : Int)).toNat = 0 from rfl] at bk); (try rw [show 0 * 5 = 0 from rfl] at bk); (try rw [Addr.add_zero'] at bk); (try rw [show ((0 : Int)).toNat = 0 from rfl] at bl); (try rw [show 0 * 5 = 0 from rfl] at bl); (try rw [Addr.add_zero'] at bl); replace bh := (HB.out.cell (World.block_lt_of_cell? w _ bh)).trans bh; replace bi := (HB.out.cell (World.block_lt_of_cell? w _ bi)).trans bi; replace bj := (HB.out.cell (World.block_lt_of_cell? w _ bj)).trans bj; replace bk := (HB.out.cell (World.block_lt_of_cell? w _ bk)).trans bk; replace bl := (HB.out.cell (World.block_lt_of_cell? w _ bl)).trans bl; have en := Aside0.mk ck; have eo := Aside0.mk cj; clear ck cj; replace cq := eq_true cq; replace cr := eq_true cr) | ((with_reducible refine qG (f := 9) rfl ?_); refine zc (some 22) rfl rfl Tryd.func9 (by kernel_rfl) rfl #[.agg #[.int .i64 ((qu ab 0).f0.f0), .int .i64 ((qu ab 0).f0.f1), .int .i64 ((qu ab 0).f0.f2), .string ((qu ab 0).f0.f3), .slice f8 ((qu ab 0).f1).length f9], .int .i64 0] rfl (by (try simp only [List.map_toArray, List.map_cons, List.map_nil]); first | done | rfl | (simp only [List.length_drop, List.length_take]; rfl)) ?_; (with_reducible refine (ih k (by omega) ((qu ab 0).f0.f0) ((qu ab 0).f0.f1) ((qu ab 0).f0.f2) ((qu ab 0).f0.f3) _ _ ((qu ab 0).f1) 0 bs _ ?side1 ?side2 lx.out).mono ?_); (case side1 => repeat (first | exact (Kd.C_below en.out HB.out) | (with_reducible refine Kd.C_alloc ?_ _) | (with_reducible refine Kd.C_drewN ?_ _) | (with_reducible refine Kd.C_drew ?_))); (case side2 => exact eo.out); rintro e l9 ⟨rfl, hb⟩; refine ⟨_, rfl, ?_⟩; replace aa := Aside0.mk (qA (g := ae) (o := .cells #[.int .i64 af, .int .i64 ah, .int .i64 ai, .string aj, .slice (some gh) ab.length ay] 37 (0, 0)) (by (with_reducible repeat (first | refine qe ?_ _ | refine qg ?_ | refine qd ?_ _)); exact aa.out) hb); replace HB := Aside0.mk (qk (by repeat (first | (with_reducible first | exact HB.out | apply qa | apply q8 | apply qb | refine qf ?_ a0.out) | exact HB.out)) hb); (try clear hb); (try clear bu); (try clear hk); (try clear hi)))
       go_ret
       exact ⟨by first | rfl | (simp [qq, qr] <;> rfl) | (simp [*, qq, qr] <;> rfl), by repeat (first | (with_reducible first | exact HB.out | apply qa | apply q8 | apply qb | refine qf ?_ a0.out) | exact HB.out)⟩
     · rw [if_neg cv] at H
       exact absurd H (by simp)
   · replace cu := Bool.eq_false_iff.mpr cu
     subst cu
     have H1 : (qn.l0 k 0 0 af ah ai aj ab) = some r := by rw [if_neg (show ¬ (false = true) by decide)] at H; exact H
     clear H;have H := H1;clear H1;have H' := Aside0.mk H;clear H
     go_enter Tryd.func9, Tryd.ntmps9
     go_wp2_with (first | ((with_reducible refine qP (N := 2) rfl ?_); refine qM ?hg (N := 2) ?hd (cs := #[.int .i64 af, .int .i64 ah, .int .i64 ai, .string aj, .slice a6 ab.length ay]) (t := 37) ?hr ?_; (case hd => rfl); (case hg => rfl); (case hr => first | (go_simp; done) | (go_simp; rfl)); intro ae hg cz hbox hb; have aa := Aside0.mk (hbox); have dm := Aside0.mk ((by rw [hg]; exact (qt (by repeat (first | (with_reducible first | exact HB.out | apply qa | apply q8 | apply qb) | exact HB.out))) : w.heap.size ≤ ae)); have a0 := Aside0.mk ((by rw [hg]; exact (qt (by repeat (first | (with_reducible first | exact HB.out | apply qa | apply q8 | apply qb) | exact HB.out))) : w.heap.size ≤ ae)); replace HB := Aside0.mk (qk (by repeat (first | (with_reducible first | exact HB.out | apply qa | apply q8 | apply qb) | exact HB.out)) hb); clear hb hbox hg; have ep : cz.cell? ⟨ae, 0, none⟩ = some (.int .i64 af) := (q9 aa.out 0).trans rfl; have er : cz.cell? ⟨ae, 1, none⟩ = some (.int .i64 ah) := (q9 aa.out 1).trans rfl; have et : cz.cell? ⟨ae, 2, none⟩ = some (.int .i64 ai) := (q9 aa.out 2).trans rfl; have eu : cz.cell? ⟨ae, 3, none⟩ = some (.string aj) := (q9 aa.out 3).trans rfl; have ev : cz.cell? ⟨ae, 4, none⟩ = some (.slice a6 ab.length ay) := (q9 aa.out 4).trans rfl; have ew := qc aa.out 0; have ey := qc aa.out 1; have ez := qc aa.out 2; have e0 := qc aa.out 3; have e1 := qc aa.out 4) | ((with_reducible refine qG (f := 15) rfl ?_); refine zc (some 10) rfl rfl Tryd.func15 (by kernel_rfl) rfl #[.agg #[.int .i64 af, .int .i64 ah, .int .i64 ai, .string aj, .slice a6 ab.length ay]] rfl (by (try simp only [List.map_toArray, List.map_cons, List.map_nil]); first | done | rfl | (simp only [List.length_drop, List.length_take]; rfl)) ?_; (with_reducible refine (qp.calls k af ah ai aj _ _ ab b7 _ ?side1 ?side2 A3.out).mono ?_); (case side1 => repeat (first | exact (Kd.C_below bf.out HB.out) | (with_reducible refine Kd.C_alloc ?_ _) | (with_reducible refine Kd.C_drewN ?_ _) | (with_reducible refine Kd.C_drew ?_))); (case side2 => exact ca.out); rintro e c5 ⟨rfl, hb⟩; refine ⟨_, rfl, ?_⟩; replace aa := Aside0.mk (qA (g := ae) (o := .cells #[.int .i64 af, .int .i64 ah, .int .i64 ai, .string aj, .slice a6 ab.length ay] 37 (0, 0)) (by (with_reducible repeat (first | refine qe ?_ _ | refine qg ?_ | refine qd ?_ _)); exact aa.out) hb); replace HB := Aside0.mk (qk (by repeat (first | (with_reducible first | exact HB.out | apply qa | apply q8 | apply qb | refine qf ?_ a0.out) | exact HB.out)) hb); (try clear hb); (try clear bu); (try clear hk); (try clear hi); have e2 : c5.cell? ⟨ae, 0, none⟩ = some (.int .i64 af) := (q9 aa.out 0).trans rfl; have e3 : c5.cell? ⟨ae, 1, none⟩ = some (.int .i64 ah) := (q9 aa.out 1).trans rfl; have e4 : c5.cell? ⟨ae, 2, none⟩ = some (.int .i64 ai) := (q9 aa.out 2).trans rfl; have e5 : c5.cell? ⟨ae, 3, none⟩ = some (.string aj) := (q9 aa.out 3).trans rfl; have e6 : c5.cell? ⟨ae, 4, none⟩ = some (.slice a6 ab.length ay) := (q9 aa.out 4).trans rfl; have e7 := qc aa.out 0; have e8 := qc aa.out 1; have e9 := qc aa.out 2; have fa := qc aa.out 3; have fb := qc aa.out 4) | ((with_reducible refine qG (f := 16) rfl ?_); refine zc (some 17) rfl rfl Tryd.func16 (by kernel_rfl) rfl #[.agg #[.int .i64 af, .int .i64 ah, .int .i64 ai, .string aj, .slice a6 ab.length ay]] rfl (by (try simp only [List.map_toArray, List.map_cons, List.map_nil]); first | done | rfl | (simp only [List.length_drop, List.length_take]; rfl)) ?_; (with_reducible refine (qW.calls af ah ai aj _ _ ab false _ ?side1 ?side2 gx.out).mono ?_); (case side1 => repeat (first | exact (Kd.C_below bf.out HB.out) | (with_reducible refine Kd.C_alloc ?_ _) | (with_reducible refine Kd.C_drewN ?_ _) | (with_reducible refine Kd.C_drew ?_))); (case side2 => exact ca.out); rintro e ma ⟨rfl, hb⟩; refine ⟨_, rfl, ?_⟩; replace aa := Aside0.mk (qA (g := ae) (o := .cells #[.int .i64 af, .int .i64 ah, .int .i64 ai, .string aj, .slice a6 ab.length ay] 37 (0, 0)) (by (with_reducible repeat (first | refine qe ?_ _ | refine qg ?_ | refine qd ?_ _)); exact aa.out) hb); replace HB := Aside0.mk (qk (by repeat (first | (with_reducible first | exact HB.out | apply qa | apply q8 | apply qb | refine qf ?_ a0.out) | exact HB.out)) hb); (try clear hb); (try clear bu); (try clear hk); (try clear hi)))
     go_loopg [5, 6] k (fun kq v5 v6 w' => ∃ (a2 : Int) (ac : Int), v5 = .int .i64 a2 ∧ v6 = .int .i64 ac ∧ Aside0 (qn.l0 kq a2 ac af ah ai aj ab = some r) ∧ Aside0 (kq ≤ k) ∧ Aside0 (w'.heap[ae]? = some (.cells #[.int .i64 af, .int .i64 ah, .int .i64 ai, .string aj, (.slice a6 ab.length ay)] 37 (0, 0))) ∧ Aside0 (Below w.heap.size w w'))
     case atStart => exact ⟨(0), (0), (by first | rfl | (simp; done) | (simp [*]; done)), (by first | rfl | (simp; done) | (simp [*]; done)), H', ⟨Nat.le_refl _⟩, ⟨by (with_reducible repeat (first | refine qe ?_ _ | refine qg ?_ | refine qd ?_ _)); exact aa.out⟩, ⟨by repeat (first | (with_reducible first | exact HB.out | apply qa | apply q8 | apply qb | refine qf ?_ a0.out) | exact HB.out)⟩⟩
     case round =>
      clear H'
      (try clear c1); (try clear p1); (try clear q1); (try clear mb); (try clear mc); (try clear p2); (try clear c4); (try clear fc); (try clear p6); (try clear c9); (try clear cu); (try clear cv); (try clear gf); (try clear gg); (try clear me); (try clear mf); (try clear mg); (try clear mh); (try clear l6); (try clear l7); (try clear dq); (try clear dr); (try clear dt); (try clear du); (try clear dv); (try clear d1); (try clear d3); (try clear d4); (try clear d5); (try clear d6); (try clear ec); (try clear ed); (try clear ee); (try clear ef); (try clear eg); (try clear ep); (try clear er); (try clear et); (try clear eu); (try clear ev); (try clear e2); (try clear e3); (try clear e4); (try clear e5); (try clear e6); (try clear ff); (try clear fg); (try clear fh); (try clear fi); (try clear fj); (try clear fq); (try clear fr); (try clear ft); (try clear fu); (try clear fv); (try clear dw); (try clear dx); (try clear dy); (try clear dz); (try clear d0); (try clear d7); (try clear d8); (try clear d9); (try clear ea); (try clear eb); (try clear eh); (try clear ei); (try clear ej); (try clear ek); (try clear em); (try clear ew); (try clear ey); (try clear ez); (try clear e0); (try clear e1); (try clear e7); (try clear e8); (try clear e9); (try clear fa); (try clear fb); (try clear fk); (try clear fl); (try clear fm); (try clear fn); (try clear fo); (try clear fw); (try clear fx); (try clear fy); (try clear fz); (try clear f4); (try clear bh); (try clear bi); (try clear bj); (try clear bk); (try clear bl); (try clear cq); (try clear cr)
      obtain ⟨a2, ac, rfl, rfl, HA, bg, aa, HB⟩ := hrel
      cases gk with
      | zero => exact absurd HA.out (by simp [qn.l0])
      | succ k1 =>
       have H := HA.out;clear HA;simp only [qn.l0] at H
       by_cases cm : ac < (ab.length : Int)
       · rw [if_pos cm] at H
         have gi : decide (ac < (ab.length : Int)) = true := decide_eq_true cm;clear cm
         by_cases dn : 0 ≤ ac
         · rw [if_pos dn] at H
           have lz : decide (0 ≤ ac) = true := decide_eq_true dn;clear dn;replace H := Option.bind_eq_some_iff.mp H;obtain ⟨bc, ga, H⟩ := H;replace H : ((qn.f k1 ((qu ab ac).f0.f0) ((qu ab ac).f0.f1) ((qu ab ac).f0.f2) ((qu ab ac).f0.f3) ((qu ab ac).f1) bc).bind fun az => (if af = 8 then (qn.l0 k1 (mx a2 (wrap64 (az + 1))) (wrap64 (ac + 1)) af ah ai aj ab) else (if af = 7 then (qn.l0 k1 (mx a2 (wrap64 (az + 1))) (wrap64 (ac + 1)) af ah ai aj ab) else (if af = 28 then (qn.l0 k1 (mx a2 (wrap64 (az + 1))) (wrap64 (ac + 1)) af ah ai aj ab) else (if af = 29 then (qn.l0 k1 (mx a2 (wrap64 (az + 1))) (wrap64 (ac + 1)) af ah ai aj ab) else (if af = 27 then (if ac > 0 then (qn.l0 k1 (mx a2 (wrap64 (az + 1))) (wrap64 (ac + 1)) af ah ai aj ab) else (qn.l0 k1 (mx a2 az) (wrap64 (ac + 1)) af ah ai aj ab)) else (qn.l0 k1 (mx a2 az) (wrap64 (ac + 1)) af ah ai aj ab))))))) = some r := H;have bq := Aside0.mk ga;clear ga;replace H := Option.bind_eq_some_iff.mp H;obtain ⟨az, gb, H⟩ := H;replace H : (if af = 8 then (qn.l0 k1 (mx a2 (wrap64 (az + 1))) (wrap64 (ac + 1)) af ah ai aj ab) else (if af = 7 then (qn.l0 k1 (mx a2 (wrap64 (az + 1))) (wrap64 (ac + 1)) af ah ai aj ab) else (if af = 28 then (qn.l0 k1 (mx a2 (wrap64 (az + 1))) (wrap64 (ac + 1)) af ah ai aj ab) else (if af = 29 then (qn.l0 k1 (mx a2 (wrap64 (az + 1))) (wrap64 (ac + 1)) af ah ai aj ab) else (if af = 27 then (if ac > 0 then (qn.l0 k1 (mx a2 (wrap64 (az + 1))) (wrap64 (ac + 1)) af ah ai aj ab) else (qn.l0 k1 (mx a2 az) (wrap64 (ac + 1)) af ah ai aj ab)) else (qn.l0 k1 (mx a2 az) (wrap64 (ac + 1)) af ah ai aj ab)))))) = some r := H;have bo := Aside0.mk gb;clear gb
           by_cases c31 : af = 8
           · rw [if_pos c31] at H
             have gj : (af == 8) = true := beq_iff_eq.mpr c31;have gl : (af != 8) = false := bne_eq_false_iff_eq.mpr c31;clear c31;obtain ⟨de, bn⟩ : ∃ j_ : Int, (mx a2 (wrap64 (az + 1))) = j_ := ⟨_, rfl⟩
             replace H : (qn.l0 k1 de (wrap64 (ac + 1)) af ah ai aj ab) = some r := by first | (rw [bn] at H; exact H) | (simp only [bn] at H ⊢; exact H)
             (try rw [bn] at bq)
             (try rw [bn] at bo)
             have hji32_ : (if a2 < (wrap64 (az + 1)) then (wrap64 (az + 1)) else a2) = de := bn;have H' := Aside0.mk H;clear H;have g0 : wr.cell? ⟨ae, 0, none⟩ = some (.int .i64 af) := (q9 aa.out 0).trans rfl;have g1 : wr.cell? ⟨ae, 1, none⟩ = some (.int .i64 ah) := (q9 aa.out 1).trans rfl;have g2 : wr.cell? ⟨ae, 2, none⟩ = some (.int .i64 ai) := (q9 aa.out 2).trans rfl;have g3 : wr.cell? ⟨ae, 3, none⟩ = some (.string aj) := (q9 aa.out 3).trans rfl;have g4 : wr.cell? ⟨ae, 4, none⟩ = some (.slice a6 ab.length ay) := (q9 aa.out 4).trans rfl;have g5 := qc aa.out 0;have g6 := qc aa.out 1;have g7 := qc aa.out 2;have g8 := qc aa.out 3;have g9 := qc aa.out 4
             try go_wp2
             replace aa := Aside0.mk (qg aa.out);replace HB := Aside0.mk (qb HB.out);have a9 : 0 ≤ (ac : Int) := of_decide_eq_true (by first | (with_reducible assumption) | assumption);have ba : ac < (ab.length : Int) := of_decide_eq_true (by first | (with_reducible assumption) | assumption);obtain ⟨ag, a7, a8, bm, ap, au, av, aw, ax, a3, a4⟩ := xg bf.out ac a9 ba;have ak := ax;have al := aw;have am := av;have an := au;have ao := ap;cases bm;replace ap := (HB.out.cell (World.block_lt_of_cell? w _ ap)).trans ap;replace au := (HB.out.cell (World.block_lt_of_cell? w _ au)).trans au;replace av := (HB.out.cell (World.block_lt_of_cell? w _ av)).trans av;replace aw := (HB.out.cell (World.block_lt_of_cell? w _ aw)).trans aw;replace ax := (HB.out.cell (World.block_lt_of_cell? w _ ax)).trans ax;have a5 := Aside0.mk a4;have bb := Aside0.mk a3;clear a4 a3;replace a9 := eq_true a9;replace ba := eq_true ba
             refine xu (n := 12) (S := fun w' => w'.cell? ⟨ae, 0, none⟩ = some (.int .i64 af) ∧ w'.cell? ⟨ae, 1, none⟩ = some (.int .i64 ah) ∧ w'.cell? ⟨ae, 2, none⟩ = some (.int .i64 ai) ∧ w'.cell? ⟨ae, 3, none⟩ = some (.string aj) ∧ w'.cell? ⟨ae, 4, none⟩ = some (.slice (some ag) ab.length ay) ∧ w'.cell? (ag.add ((ac).toNat * 5)) = some (.int .i64 ((qu ab ac).f0.f0)) ∧ w'.cell? ⟨(ag.add ((ac).toNat * 5)).block, (ag.add ((ac).toNat * 5)).off + 1, none⟩ = some (.int .i64 ((qu ab ac).f0.f1)) ∧ w'.cell? ⟨(ag.add ((ac).toNat * 5)).block, (ag.add ((ac).toNat * 5)).off + 2, none⟩ = some (.int .i64 ((qu ab ac).f0.f2)) ∧ w'.cell? ⟨(ag.add ((ac).toNat * 5)).block, (ag.add ((ac).toNat * 5)).off + 3, none⟩ = some (.string ((qu ab ac).f0.f3)) ∧ w'.cell? ⟨(ag.add ((ac).toNat * 5)).block, (ag.add ((ac).toNat * 5)).off + 4, none⟩ = some (.slice a7 ((qu ab ac).f1).length a8)) (ds := []) #[false, false, false, false, false, false, false, false, false, false, false, false] (by kernel_rfl) rfl rfl ⟨(q9 aa.out 0).trans rfl, (q9 aa.out 1).trans rfl, (q9 aa.out 2).trans rfl, (q9 aa.out 3).trans rfl, (q9 aa.out 4).trans rfl, ((HB.out.cell (World.block_lt_of_cell? w _ ao)).trans ao), ((HB.out.cell (World.block_lt_of_cell? w _ an)).trans an), ((HB.out.cell (World.block_lt_of_cell? w _ am)).trans am), ((HB.out.cell (World.block_lt_of_cell? w _ al)).trans al), ((HB.out.cell (World.block_lt_of_cell? w _ ak)).trans ak)⟩ (fun hHeld => ?_); refine zE qn.tab9 qn.bits9 (fun HT_ HW_ => ?_)
             generalize wr.drew = mi at aa HB a5 ap au av aw ax hHeld ⊢;refine qU (i := 0) (N := some 30) (v := ?_) (a' := ?_) #[true, false, false, false, false, false, false, false, false, false, false, false] rfl rfl (qN HT_.out (by kernel_rfl)) (fun _ _ _ h => h) (Or.inl ⟨by rfl, ?_⟩) ?_ ?_;rotate_left
             · intro w'
               go_simp
               with_reducible rfl
             rotate_left
             · simp only [Act.put, List.setIfInBounds_toArray, List.set_cons_zero, List.set_cons_succ, qC, qD]
               rfl
             refine qU (i := 2) (N := some 32) (v := ?_) (a' := ?_) #[true, false, true, false, false, false, false, false, false, false, false, false] rfl rfl (qN HT_.out (by kernel_rfl)) (fun _ _ _ h => h) (Or.inl ⟨by rfl, ?_⟩) ?_ ?_;rotate_left
             · intro w'
               go_simp
               with_reducible rfl
             rotate_left
             · simp only [Act.put, List.setIfInBounds_toArray, List.set_cons_zero, List.set_cons_succ, qC, qD]
               rfl
             refine qU (i := 5) (N := some 35) (v := ?_) (a' := ?_) #[true, false, true, false, false, true, false, false, false, false, false, false] rfl rfl (qN HT_.out (by kernel_rfl)) (fun _ _ _ h => h) (Or.inl ⟨by rfl, ?_⟩) ?_ ?_;rotate_left
             · intro w'
               go_simp
               with_reducible rfl
             rotate_left
             · simp only [Act.put, List.setIfInBounds_toArray, List.set_cons_zero, List.set_cons_succ, qC, qD]
               rfl
             refine qU (i := 6) (N := some 36) (v := ?_) (a' := ?_) #[true, false, true, false, false, true, true, false, false, false, false, false] rfl rfl (qN HT_.out (by kernel_rfl)) (fun _ _ _ h => h) (Or.inl ⟨by rfl, ?_⟩) ?_ ?_;rotate_left
             · intro w'
               go_simp
               with_reducible rfl
             rotate_left
             · simp only [Act.put, List.setIfInBounds_toArray, List.set_cons_zero, List.set_cons_succ, qC, qD]
               rfl
             refine qU (i := 8) (N := some 38) (v := ?_) (a' := ?_) #[true, false, true, false, false, true, true, false, true, false, false, false] rfl rfl (qN HT_.out (by kernel_rfl)) (fun _ _ _ h => h) (Or.inl ⟨by rfl, ?_⟩) ?_ ?_;rotate_left
             · intro w'
               go_simp
               with_reducible rfl
             rotate_left
             · simp only [Act.put, List.setIfInBounds_toArray, List.set_cons_zero, List.set_cons_succ, qC, qD]
               rfl
             refine zz (i := 1) (N := some 31) (v := ?_) (a' := ?_) #[true, true, true, false, false, true, true, false, true, false, false, false] rfl rfl (z8 HT_.out HW_.out (by kernel_rfl)) (fun _ _ _ h => h) (Or.inl ⟨by rfl, ?_⟩) hHeld ?_ ?_;rotate_left
             · rintro w' ⟨s0, s1, s2, s3, s4, s5, s6, s7, s8, s9⟩
               go_simp
               with_reducible rfl
             rotate_left
             · simp only [Act.put, List.setIfInBounds_toArray, List.set_cons_zero, List.set_cons_succ, qC, qD]
               rfl
             refine qU (i := 3) (N := some 33) (v := ?_) (a' := ?_) #[true, true, true, true, false, true, true, false, true, false, false, false] rfl rfl (qN HT_.out (by kernel_rfl)) (fun _ _ _ h => h) (Or.inl ⟨by rfl, ?_⟩) ?_ ?_;rotate_left
             · intro w'
               go_simp
               with_reducible rfl
             rotate_left
             · simp only [Act.put, List.setIfInBounds_toArray, List.set_cons_zero, List.set_cons_succ, qC, qD]
               rfl
             refine zz (i := 4) (N := some 34) (v := ?_) (a' := ?_) #[true, true, true, true, true, true, true, false, true, false, false, false] rfl rfl (z8 HT_.out HW_.out (by kernel_rfl)) (fun _ _ _ h => h) (Or.inl ⟨by rfl, ?_⟩) hHeld ?_ ?_;rotate_left
             · rintro w' ⟨s0, s1, s2, s3, s4, s5, s6, s7, s8, s9⟩
               go_simp
               with_reducible rfl
             rotate_left
             · simp only [Act.put, List.setIfInBounds_toArray, List.set_cons_zero, List.set_cons_succ, qC, qD]
               rfl
             refine zz (i := 7) (N := some 37) (v := ?_) (a' := ?_) #[true, true, true, true, true, true, true, true, true, false, false, false] rfl rfl (z8 HT_.out HW_.out (by kernel_rfl)) (fun _ _ _ h => h) (Or.inl ⟨by rfl, ?_⟩) hHeld ?_ ?_;rotate_left
             · rintro w' ⟨s0, s1, s2, s3, s4, s5, s6, s7, s8, s9⟩
               go_simp
               with_reducible rfl
             rotate_left
             · simp only [Act.put, List.setIfInBounds_toArray, List.set_cons_zero, List.set_cons_succ, qC, qD]
               rfl
             refine one_ (i := 9) (N := some 39) #[true, true, true, true, true, true, true, true, true, true, false, false] rfl rfl (zx HT_.out (by kernel_rfl)) (by decide) (fun K hK => ?_);refine zW Tryd.func17 (by kernel_rfl) rfl #[.int .i64 af, .int .i64 ac] (by rfl) rfl rfl (by (try simp only [List.map_toArray, List.map_cons, List.map_nil]); first | done | rfl | (simp only [List.length_drop, List.length_take]; rfl)) ?_
             with_reducible refine (qm.calls k1 af ac bc _ bq.out).mono ?_
             rintro e w' ⟨rfl, ⟨nd, rfl⟩⟩
             refine ⟨_, rfl, ?_⟩;refine hK.out _ _ ⟨(q9 aa.out 0).trans rfl, (q9 aa.out 1).trans rfl, (q9 aa.out 2).trans rfl, (q9 aa.out 3).trans rfl, (q9 aa.out 4).trans rfl, ((HB.out.cell (World.block_lt_of_cell? w _ ao)).trans ao), ((HB.out.cell (World.block_lt_of_cell? w _ an)).trans an), ((HB.out.cell (World.block_lt_of_cell? w _ am)).trans am), ((HB.out.cell (World.block_lt_of_cell? w _ al)).trans al), ((HB.out.cell (World.block_lt_of_cell? w _ ak)).trans ak)⟩ (fun hHeld => ?_);clear hK K;refine zI (a' := ?_) ?_ ?_;rotate_left
             · show Act.put _ (some 39) _ = _
               simp only [Act.put, List.setIfInBounds_toArray, List.set_cons_zero, List.set_cons_succ, qC, qD]
               rfl
             refine one_ (i := 10) (N := some 40) #[true, true, true, true, true, true, true, true, true, true, true, false] rfl rfl (zx HT_.out (by kernel_rfl)) (by decide) (fun K hK => ?_);refine zW Tryd.func9 (by kernel_rfl) rfl #[.agg #[.int .i64 ((qu ab ac).f0.f0), .int .i64 ((qu ab ac).f0.f1), .int .i64 ((qu ab ac).f0.f2), .string ((qu ab ac).f0.f3), .slice a7 ((qu ab ac).f1).length a8], .int .i64 bc] (by rfl) rfl rfl (by (try simp only [List.map_toArray, List.map_cons, List.map_nil]); first | done | rfl | (simp only [List.length_drop, List.length_take]; rfl)) ?_
             with_reducible refine (ih k1 (by have := bg.out; omega) ((qu ab ac).f0.f0) ((qu ab ac).f0.f1) ((qu ab ac).f0.f2) ((qu ab ac).f0.f3) _ _ ((qu ab ac).f1) bc az _ ?side1 ?side2 bo.out).mono ?_
             (case side1 => repeat (first | exact (Kd.C_below a5.out (by repeat (first | (with_reducible first | exact HB.out | apply qa | apply q8 | apply qb | refine qf ?_ a0.out) | exact HB.out))) | (with_reducible refine Kd.C_alloc ?_ _) | (with_reducible refine Kd.C_drewN ?_ _) | (with_reducible refine Kd.C_drew ?_)))
             (case side2 => exact bb.out)
             rintro e c6 ⟨rfl, hb⟩
             refine ⟨_, rfl, ?_⟩;replace aa := Aside0.mk (qA (g := ae) (o := .cells #[.int .i64 af, .int .i64 ah, .int .i64 ai, .string aj, .slice (some ag) ab.length ay] 37 (0, 0)) (by (with_reducible repeat (first | refine qe ?_ _ | refine qg ?_ | refine qd ?_ _)); exact aa.out) hb);replace HB := Aside0.mk (qk (by repeat (first | (with_reducible first | exact HB.out | apply qa | apply q8 | apply qb | refine qf ?_ a0.out) | exact HB.out)) hb)
             (try clear hb)
             (try clear bu)
             (try clear hk)
             (try clear hi)
             refine hK.out _ _ ⟨(q9 aa.out 0).trans rfl, (q9 aa.out 1).trans rfl, (q9 aa.out 2).trans rfl, (q9 aa.out 3).trans rfl, (q9 aa.out 4).trans rfl, ((HB.out.cell (World.block_lt_of_cell? w _ ao)).trans ao), ((HB.out.cell (World.block_lt_of_cell? w _ an)).trans an), ((HB.out.cell (World.block_lt_of_cell? w _ am)).trans am), ((HB.out.cell (World.block_lt_of_cell? w _ al)).trans al), ((HB.out.cell (World.block_lt_of_cell? w _ ak)).trans ak)⟩ (fun hHeld => ?_);clear hK K;refine zI (a' := ?_) ?_ ?_;rotate_left
             · show Act.put _ (some 40) _ = _
               simp only [Act.put, List.setIfInBounds_toArray, List.set_cons_zero, List.set_cons_succ, qC, qD]
               rfl
             refine qU (i := 11) (N := some 7) (v := ?_) (a' := ?_) #[true, true, true, true, true, true, true, true, true, true, true, true] rfl rfl (qN HT_.out (by kernel_rfl)) (fun _ _ _ h => h) (Or.inl ⟨by rfl, ?_⟩) ?_ ?_;rotate_left
             · intro w'
               go_simp
               with_reducible rfl
             rotate_left
             · simp only [Act.put, List.setIfInBounds_toArray, List.set_cons_zero, List.set_cons_succ, qC, qD]
               rfl
             refine xU (xc HT_.out (by kernel_rfl)) ?_;have ha : c6.cell? ⟨ae, 0, none⟩ = some (.int .i64 af) := (q9 aa.out 0).trans rfl;have hc : c6.cell? ⟨ae, 1, none⟩ = some (.int .i64 ah) := (q9 aa.out 1).trans rfl;have he : c6.cell? ⟨ae, 2, none⟩ = some (.int .i64 ai) := (q9 aa.out 2).trans rfl;have hf : c6.cell? ⟨ae, 3, none⟩ = some (.string aj) := (q9 aa.out 3).trans rfl;have hh : c6.cell? ⟨ae, 4, none⟩ = some (.slice (some ag) ab.length ay) := (q9 aa.out 4).trans rfl;have hj := qc aa.out 0;have hl := qc aa.out 1;have hm := qc aa.out 2;have hn := qc aa.out 3;have ho := qc aa.out 4
             try go_wp2
             go_roundg k1
             case measure => have := bg.out; omega
             case rel => exact ⟨(de), (wrap64 (ac + 1)), (by first | rfl | (simp; done) | (simp only [← bn] <;> (first | rfl | simp)) | (simp [*]; done)), (by first | rfl | (simp; done) | (simp [*]; done)), H', ⟨by have := bg.out; omega⟩, ⟨by (with_reducible repeat (first | refine qe ?_ _ | refine qg ?_ | refine qd ?_ _)); exact aa.out⟩, ⟨by repeat (first | (with_reducible first | exact HB.out | apply qa | apply q8 | apply qb | refine qf ?_ a0.out) | exact HB.out)⟩⟩
           · rw [if_neg c31] at H
             have gj : (af == 8) = false := beq_eq_false_iff_ne.mpr c31;have gl : (af != 8) = true := bne_iff_ne.mpr c31
             by_cases cf : af = 7
             · rw [if_pos cf] at H
               have gm : (af == 7) = true := beq_iff_eq.mpr cf;have gn : (af != 7) = false := bne_eq_false_iff_eq.mpr cf;clear cf
               (try clear bn); (try clear hji32w)
               obtain ⟨df, bp⟩ : ∃ j_ : Int, (mx a2 (wrap64 (az + 1))) = j_ := ⟨_, rfl⟩
               replace H : (qn.l0 k1 df (wrap64 (ac + 1)) af ah ai aj ab) = some r := by first | (rw [bp] at H; exact H) | (simp only [bp] at H ⊢; exact H)
               (try rw [bp] at bq)
               (try rw [bp] at bo)
               have hji38_ : (if a2 < (wrap64 (az + 1)) then (wrap64 (az + 1)) else a2) = df := bp;have H' := Aside0.mk H;clear H;have hp : wr.cell? ⟨ae, 0, none⟩ = some (.int .i64 af) := (q9 aa.out 0).trans rfl;have hq : wr.cell? ⟨ae, 1, none⟩ = some (.int .i64 ah) := (q9 aa.out 1).trans rfl;have ht : wr.cell? ⟨ae, 2, none⟩ = some (.int .i64 ai) := (q9 aa.out 2).trans rfl;have hu : wr.cell? ⟨ae, 3, none⟩ = some (.string aj) := (q9 aa.out 3).trans rfl;have hv : wr.cell? ⟨ae, 4, none⟩ = some (.slice a6 ab.length ay) := (q9 aa.out 4).trans rfl;have hw := qc aa.out 0;have hx := qc aa.out 1;have hy := qc aa.out 2;have hz := qc aa.out 3;have h0 := qc aa.out 4
               try go_wp2
               replace aa := Aside0.mk (qg aa.out);replace HB := Aside0.mk (qb HB.out);have a9 : 0 ≤ (ac : Int) := of_decide_eq_true (by first | (with_reducible assumption) | assumption);have ba : ac < (ab.length : Int) := of_decide_eq_true (by first | (with_reducible assumption) | assumption);obtain ⟨ag, a7, a8, bm, ap, au, av, aw, ax, a3, a4⟩ := xg bf.out ac a9 ba;have ak := ax;have al := aw;have am := av;have an := au;have ao := ap;cases bm;replace ap := (HB.out.cell (World.block_lt_of_cell? w _ ap)).trans ap;replace au := (HB.out.cell (World.block_lt_of_cell? w _ au)).trans au;replace av := (HB.out.cell (World.block_lt_of_cell? w _ av)).trans av;replace aw := (HB.out.cell (World.block_lt_of_cell? w _ aw)).trans aw;replace ax := (HB.out.cell (World.block_lt_of_cell? w _ ax)).trans ax;have a5 := Aside0.mk a4;have bb := Aside0.mk a3;clear a4 a3;replace a9 := eq_true a9;replace ba := eq_true ba
               refine xu (n := 12) (S := fun w' => w'.cell? ⟨ae, 0, none⟩ = some (.int .i64 af) ∧ w'.cell? ⟨ae, 1, none⟩ = some (.int .i64 ah) ∧ w'.cell? ⟨ae, 2, none⟩ = some (.int .i64 ai) ∧ w'.cell? ⟨ae, 3, none⟩ = some (.string aj) ∧ w'.cell? ⟨ae, 4, none⟩ = some (.slice (some ag) ab.length ay) ∧ w'.cell? (ag.add ((ac).toNat * 5)) = some (.int .i64 ((qu ab ac).f0.f0)) ∧ w'.cell? ⟨(ag.add ((ac).toNat * 5)).block, (ag.add ((ac).toNat * 5)).off + 1, none⟩ = some (.int .i64 ((qu ab ac).f0.f1)) ∧ w'.cell? ⟨(ag.add ((ac).toNat * 5)).block, (ag.add ((ac).toNat * 5)).off + 2, none⟩ = some (.int .i64 ((qu ab ac).f0.f2)) ∧ w'.cell? ⟨(ag.add ((ac).toNat * 5)).block, (ag.add ((ac).toNat * 5)).off + 3, none⟩ = some (.string ((qu ab ac).f0.f3)) ∧ w'.cell? ⟨(ag.add ((ac).toNat * 5)).block, (ag.add ((ac).toNat * 5)).off + 4, none⟩ = some (.slice a7 ((qu ab ac).f1).length a8)) (ds := []) #[false, false, false, false, false, false, false, false, false, false, false, false] (by kernel_rfl) rfl rfl ⟨(q9 aa.out 0).trans rfl, (q9 aa.out 1).trans rfl, (q9 aa.out 2).trans rfl, (q9 aa.out 3).trans rfl, (q9 aa.out 4).trans rfl, ((HB.out.cell (World.block_lt_of_cell? w _ ao)).trans ao), ((HB.out.cell (World.block_lt_of_cell? w _ an)).trans an), ((HB.out.cell (World.block_lt_of_cell? w _ am)).trans am), ((HB.out.cell (World.block_lt_of_cell? w _ al)).trans al), ((HB.out.cell (World.block_lt_of_cell? w _ ak)).trans ak)⟩ (fun hHeld => ?_); refine zE qn.tab9 qn.bits9 (fun HT_ HW_ => ?_)
               generalize wr.drew = mj at aa HB a5 ap au av aw ax hHeld ⊢;refine qU (i := 0) (N := some 30) (v := ?_) (a' := ?_) #[true, false, false, false, false, false, false, false, false, false, false, false] rfl rfl (qN HT_.out (by kernel_rfl)) (fun _ _ _ h => h) (Or.inl ⟨by rfl, ?_⟩) ?_ ?_;rotate_left
               · intro w'
                 go_simp
                 with_reducible rfl
               rotate_left
               · simp only [Act.put, List.setIfInBounds_toArray, List.set_cons_zero, List.set_cons_succ, qC, qD]
                 rfl
               refine qU (i := 2) (N := some 32) (v := ?_) (a' := ?_) #[true, false, true, false, false, false, false, false, false, false, false, false] rfl rfl (qN HT_.out (by kernel_rfl)) (fun _ _ _ h => h) (Or.inl ⟨by rfl, ?_⟩) ?_ ?_;rotate_left
               · intro w'
                 go_simp
                 with_reducible rfl
               rotate_left
               · simp only [Act.put, List.setIfInBounds_toArray, List.set_cons_zero, List.set_cons_succ, qC, qD]
                 rfl
               refine qU (i := 5) (N := some 35) (v := ?_) (a' := ?_) #[true, false, true, false, false, true, false, false, false, false, false, false] rfl rfl (qN HT_.out (by kernel_rfl)) (fun _ _ _ h => h) (Or.inl ⟨by rfl, ?_⟩) ?_ ?_;rotate_left
               · intro w'
                 go_simp
                 with_reducible rfl
               rotate_left
               · simp only [Act.put, List.setIfInBounds_toArray, List.set_cons_zero, List.set_cons_succ, qC, qD]
                 rfl
               refine qU (i := 6) (N := some 36) (v := ?_) (a' := ?_) #[true, false, true, false, false, true, true, false, false, false, false, false] rfl rfl (qN HT_.out (by kernel_rfl)) (fun _ _ _ h => h) (Or.inl ⟨by rfl, ?_⟩) ?_ ?_;rotate_left
               · intro w'
                 go_simp
                 with_reducible rfl
               rotate_left
               · simp only [Act.put, List.setIfInBounds_toArray, List.set_cons_zero, List.set_cons_succ, qC, qD]
                 rfl
               refine qU (i := 8) (N := some 38) (v := ?_) (a' := ?_) #[true, false, true, false, false, true, true, false, true, false, false, false] rfl rfl (qN HT_.out (by kernel_rfl)) (fun _ _ _ h => h) (Or.inl ⟨by rfl, ?_⟩) ?_ ?_;rotate_left
               · intro w'
                 go_simp
                 with_reducible rfl
               rotate_left
               · simp only [Act.put, List.setIfInBounds_toArray, List.set_cons_zero, List.set_cons_succ, qC, qD]
                 rfl
               refine zz (i := 1) (N := some 31) (v := ?_) (a' := ?_) #[true, true, true, false, false, true, true, false, true, false, false, false] rfl rfl (z8 HT_.out HW_.out (by kernel_rfl)) (fun _ _ _ h => h) (Or.inl ⟨by rfl, ?_⟩) hHeld ?_ ?_;rotate_left
               · rintro w' ⟨s0, s1, s2, s3, s4, s5, s6, s7, s8, s9⟩
                 go_simp
                 with_reducible rfl
               rotate_left
               · simp only [Act.put, List.setIfInBounds_toArray, List.set_cons_zero, List.set_cons_succ, qC, qD]
                 rfl
               refine qU (i := 3) (N := some 33) (v := ?_) (a' := ?_) #[true, true, true, true, false, true, true, false, true, false, false, false] rfl rfl (qN HT_.out (by kernel_rfl)) (fun _ _ _ h => h) (Or.inl ⟨by rfl, ?_⟩) ?_ ?_;rotate_left
               · intro w'
                 go_simp
                 with_reducible rfl
               rotate_left
               · simp only [Act.put, List.setIfInBounds_toArray, List.set_cons_zero, List.set_cons_succ, qC, qD]
                 rfl
               refine zz (i := 4) (N := some 34) (v := ?_) (a' := ?_) #[true, true, true, true, true, true, true, false, true, false, false, false] rfl rfl (z8 HT_.out HW_.out (by kernel_rfl)) (fun _ _ _ h => h) (Or.inl ⟨by rfl, ?_⟩) hHeld ?_ ?_;rotate_left
               · rintro w' ⟨s0, s1, s2, s3, s4, s5, s6, s7, s8, s9⟩
                 go_simp
                 with_reducible rfl
               rotate_left
               · simp only [Act.put, List.setIfInBounds_toArray, List.set_cons_zero, List.set_cons_succ, qC, qD]
                 rfl
               refine zz (i := 7) (N := some 37) (v := ?_) (a' := ?_) #[true, true, true, true, true, true, true, true, true, false, false, false] rfl rfl (z8 HT_.out HW_.out (by kernel_rfl)) (fun _ _ _ h => h) (Or.inl ⟨by rfl, ?_⟩) hHeld ?_ ?_;rotate_left
               · rintro w' ⟨s0, s1, s2, s3, s4, s5, s6, s7, s8, s9⟩
                 go_simp
                 with_reducible rfl
               rotate_left
               · simp only [Act.put, List.setIfInBounds_toArray, List.set_cons_zero, List.set_cons_succ, qC, qD]
                 rfl
               refine one_ (i := 9) (N := some 39) #[true, true, true, true, true, true, true, true, true, true, false, false] rfl rfl (zx HT_.out (by kernel_rfl)) (by decide) (fun K hK => ?_);refine zW Tryd.func17 (by kernel_rfl) rfl #[.int .i64 af, .int .i64 ac] (by rfl) rfl rfl (by (try simp only [List.map_toArray, List.map_cons, List.map_nil]); first | done | rfl | (simp only [List.length_drop, List.length_take]; rfl)) ?_
               with_reducible refine (qm.calls k1 af ac bc _ bq.out).mono ?_
               rintro e w' ⟨rfl, ⟨nd, rfl⟩⟩
               refine ⟨_, rfl, ?_⟩;refine hK.out _ _ ⟨(q9 aa.out 0).trans rfl, (q9 aa.out 1).trans rfl, (q9 aa.out 2).trans rfl, (q9 aa.out 3).trans rfl, (q9 aa.out 4).trans rfl, ((HB.out.cell (World.block_lt_of_cell? w _ ao)).trans ao), ((HB.out.cell (World.block_lt_of_cell? w _ an)).trans an), ((HB.out.cell (World.block_lt_of_cell? w _ am)).trans am), ((HB.out.cell (World.block_lt_of_cell? w _ al)).trans al), ((HB.out.cell (World.block_lt_of_cell? w _ ak)).trans ak)⟩ (fun hHeld => ?_);clear hK K;refine zI (a' := ?_) ?_ ?_;rotate_left
               · show Act.put _ (some 39) _ = _
                 simp only [Act.put, List.setIfInBounds_toArray, List.set_cons_zero, List.set_cons_succ, qC, qD]
                 rfl
               refine one_ (i := 10) (N := some 40) #[true, true, true, true, true, true, true, true, true, true, true, false] rfl rfl (zx HT_.out (by kernel_rfl)) (by decide) (fun K hK => ?_);refine zW Tryd.func9 (by kernel_rfl) rfl #[.agg #[.int .i64 ((qu ab ac).f0.f0), .int .i64 ((qu ab ac).f0.f1), .int .i64 ((qu ab ac).f0.f2), .string ((qu ab ac).f0.f3), .slice a7 ((qu ab ac).f1).length a8], .int .i64 bc] (by rfl) rfl rfl (by (try simp only [List.map_toArray, List.map_cons, List.map_nil]); first | done | rfl | (simp only [List.length_drop, List.length_take]; rfl)) ?_
               with_reducible refine (ih k1 (by have := bg.out; omega) ((qu ab ac).f0.f0) ((qu ab ac).f0.f1) ((qu ab ac).f0.f2) ((qu ab ac).f0.f3) _ _ ((qu ab ac).f1) bc az _ ?side1 ?side2 bo.out).mono ?_
               (case side1 => repeat (first | exact (Kd.C_below a5.out (by repeat (first | (with_reducible first | exact HB.out | apply qa | apply q8 | apply qb | refine qf ?_ a0.out) | exact HB.out))) | (with_reducible refine Kd.C_alloc ?_ _) | (with_reducible refine Kd.C_drewN ?_ _) | (with_reducible refine Kd.C_drew ?_)))
               (case side2 => exact bb.out)
               rintro e c7 ⟨rfl, hb⟩
               refine ⟨_, rfl, ?_⟩;replace aa := Aside0.mk (qA (g := ae) (o := .cells #[.int .i64 af, .int .i64 ah, .int .i64 ai, .string aj, .slice (some ag) ab.length ay] 37 (0, 0)) (by (with_reducible repeat (first | refine qe ?_ _ | refine qg ?_ | refine qd ?_ _)); exact aa.out) hb);replace HB := Aside0.mk (qk (by repeat (first | (with_reducible first | exact HB.out | apply qa | apply q8 | apply qb | refine qf ?_ a0.out) | exact HB.out)) hb)
               (try clear hb)
               (try clear bu)
               (try clear hk)
               (try clear hi)
               refine hK.out _ _ ⟨(q9 aa.out 0).trans rfl, (q9 aa.out 1).trans rfl, (q9 aa.out 2).trans rfl, (q9 aa.out 3).trans rfl, (q9 aa.out 4).trans rfl, ((HB.out.cell (World.block_lt_of_cell? w _ ao)).trans ao), ((HB.out.cell (World.block_lt_of_cell? w _ an)).trans an), ((HB.out.cell (World.block_lt_of_cell? w _ am)).trans am), ((HB.out.cell (World.block_lt_of_cell? w _ al)).trans al), ((HB.out.cell (World.block_lt_of_cell? w _ ak)).trans ak)⟩ (fun hHeld => ?_);clear hK K;refine zI (a' := ?_) ?_ ?_;rotate_left
               · show Act.put _ (some 40) _ = _
                 simp only [Act.put, List.setIfInBounds_toArray, List.set_cons_zero, List.set_cons_succ, qC, qD]
                 rfl
               refine qU (i := 11) (N := some 7) (v := ?_) (a' := ?_) #[true, true, true, true, true, true, true, true, true, true, true, true] rfl rfl (qN HT_.out (by kernel_rfl)) (fun _ _ _ h => h) (Or.inl ⟨by rfl, ?_⟩) ?_ ?_;rotate_left
               · intro w'
                 go_simp
                 with_reducible rfl
               rotate_left
               · simp only [Act.put, List.setIfInBounds_toArray, List.set_cons_zero, List.set_cons_succ, qC, qD]
                 rfl
               refine xU (xc HT_.out (by kernel_rfl)) ?_;have h1 : c7.cell? ⟨ae, 0, none⟩ = some (.int .i64 af) := (q9 aa.out 0).trans rfl;have h2 : c7.cell? ⟨ae, 1, none⟩ = some (.int .i64 ah) := (q9 aa.out 1).trans rfl;have h3 : c7.cell? ⟨ae, 2, none⟩ = some (.int .i64 ai) := (q9 aa.out 2).trans rfl;have h4 : c7.cell? ⟨ae, 3, none⟩ = some (.string aj) := (q9 aa.out 3).trans rfl;have h5 : c7.cell? ⟨ae, 4, none⟩ = some (.slice (some ag) ab.length ay) := (q9 aa.out 4).trans rfl;have h6 := qc aa.out 0;have h7 := qc aa.out 1;have h8 := qc aa.out 2;have h9 := qc aa.out 3;have ia := qc aa.out 4
               try go_wp2
               go_roundg k1
               case measure => have := bg.out; omega
               case rel => exact ⟨(df), (wrap64 (ac + 1)), (by first | rfl | (simp; done) | (simp only [← bp] <;> (first | rfl | simp)) | (simp [*]; done)), (by first | rfl | (simp; done) | (simp [*]; done)), H', ⟨by have := bg.out; omega⟩, ⟨by (with_reducible repeat (first | refine qe ?_ _ | refine qg ?_ | refine qd ?_ _)); exact aa.out⟩, ⟨by repeat (first | (with_reducible first | exact HB.out | apply qa | apply q8 | apply qb | refine qf ?_ a0.out) | exact HB.out)⟩⟩
             · rw [if_neg cf] at H
               have gm : (af == 7) = false := beq_eq_false_iff_ne.mpr cf;have gn : (af != 7) = true := bne_iff_ne.mpr cf
               by_cases cg : af = 28
               · rw [if_pos cg] at H
                 have gp : (af == 28) = true := beq_iff_eq.mpr cg;have gq : (af != 28) = false := bne_eq_false_iff_eq.mpr cg;clear cg
                 (try clear bn); (try clear hji32w); (try clear bp); (try clear hji38w)
                 obtain ⟨dh, br⟩ : ∃ j_ : Int, (mx a2 (wrap64 (az + 1))) = j_ := ⟨_, rfl⟩
                 replace H : (qn.l0 k1 dh (wrap64 (ac + 1)) af ah ai aj ab) = some r := by first | (rw [br] at H; exact H) | (simp only [br] at H ⊢; exact H)
                 (try rw [br] at bq)
                 (try rw [br] at bo)
                 have hji44_ : (if a2 < (wrap64 (az + 1)) then (wrap64 (az + 1)) else a2) = dh := br;have H' := Aside0.mk H;clear H;have ib : wr.cell? ⟨ae, 0, none⟩ = some (.int .i64 af) := (q9 aa.out 0).trans rfl;have ic : wr.cell? ⟨ae, 1, none⟩ = some (.int .i64 ah) := (q9 aa.out 1).trans rfl;have ie : wr.cell? ⟨ae, 2, none⟩ = some (.int .i64 ai) := (q9 aa.out 2).trans rfl;have ig : wr.cell? ⟨ae, 3, none⟩ = some (.string aj) := (q9 aa.out 3).trans rfl;have ii : wr.cell? ⟨ae, 4, none⟩ = some (.slice a6 ab.length ay) := (q9 aa.out 4).trans rfl;have ij := qc aa.out 0;have ik := qc aa.out 1;have il := qc aa.out 2;have im := qc aa.out 3;have io := qc aa.out 4
                 try go_wp2
                 replace aa := Aside0.mk (qg aa.out);replace HB := Aside0.mk (qb HB.out);have a9 : 0 ≤ (ac : Int) := of_decide_eq_true (by first | (with_reducible assumption) | assumption);have ba : ac < (ab.length : Int) := of_decide_eq_true (by first | (with_reducible assumption) | assumption);obtain ⟨ag, a7, a8, bm, ap, au, av, aw, ax, a3, a4⟩ := xg bf.out ac a9 ba;have ak := ax;have al := aw;have am := av;have an := au;have ao := ap;cases bm;replace ap := (HB.out.cell (World.block_lt_of_cell? w _ ap)).trans ap;replace au := (HB.out.cell (World.block_lt_of_cell? w _ au)).trans au;replace av := (HB.out.cell (World.block_lt_of_cell? w _ av)).trans av;replace aw := (HB.out.cell (World.block_lt_of_cell? w _ aw)).trans aw;replace ax := (HB.out.cell (World.block_lt_of_cell? w _ ax)).trans ax;have a5 := Aside0.mk a4;have bb := Aside0.mk a3;clear a4 a3;replace a9 := eq_true a9;replace ba := eq_true ba
                 refine xu (n := 12) (S := fun w' => w'.cell? ⟨ae, 0, none⟩ = some (.int .i64 af) ∧ w'.cell? ⟨ae, 1, none⟩ = some (.int .i64 ah) ∧ w'.cell? ⟨ae, 2, none⟩ = some (.int .i64 ai) ∧ w'.cell? ⟨ae, 3, none⟩ = some (.string aj) ∧ w'.cell? ⟨ae, 4, none⟩ = some (.slice (some ag) ab.length ay) ∧ w'.cell? (ag.add ((ac).toNat * 5)) = some (.int .i64 ((qu ab ac).f0.f0)) ∧ w'.cell? ⟨(ag.add ((ac).toNat * 5)).block, (ag.add ((ac).toNat * 5)).off + 1, none⟩ = some (.int .i64 ((qu ab ac).f0.f1)) ∧ w'.cell? ⟨(ag.add ((ac).toNat * 5)).block, (ag.add ((ac).toNat * 5)).off + 2, none⟩ = some (.int .i64 ((qu ab ac).f0.f2)) ∧ w'.cell? ⟨(ag.add ((ac).toNat * 5)).block, (ag.add ((ac).toNat * 5)).off + 3, none⟩ = some (.string ((qu ab ac).f0.f3)) ∧ w'.cell? ⟨(ag.add ((ac).toNat * 5)).block, (ag.add ((ac).toNat * 5)).off + 4, none⟩ = some (.slice a7 ((qu ab ac).f1).length a8)) (ds := []) #[false, false, false, false, false, false, false, false, false, false, false, false] (by kernel_rfl) rfl rfl ⟨(q9 aa.out 0).trans rfl, (q9 aa.out 1).trans rfl, (q9 aa.out 2).trans rfl, (q9 aa.out 3).trans rfl, (q9 aa.out 4).trans rfl, ((HB.out.cell (World.block_lt_of_cell? w _ ao)).trans ao), ((HB.out.cell (World.block_lt_of_cell? w _ an)).trans an), ((HB.out.cell (World.block_lt_of_cell? w _ am)).trans am), ((HB.out.cell (World.block_lt_of_cell? w _ al)).trans al), ((HB.out.cell (World.block_lt_of_cell? w _ ak)).trans ak)⟩ (fun hHeld => ?_); refine zE qn.tab9 qn.bits9 (fun HT_ HW_ => ?_)
                 generalize wr.drew = ml at aa HB a5 ap au av aw ax hHeld ⊢;refine qU (i := 0) (N := some 30) (v := ?_) (a' := ?_) #[true, false, false, false, false, false, false, false, false, false, false, false] rfl rfl (qN HT_.out (by kernel_rfl)) (fun _ _ _ h => h) (Or.inl ⟨by rfl, ?_⟩) ?_ ?_;rotate_left
                 · intro w'
                   go_simp
                   with_reducible rfl
                 rotate_left
                 · simp only [Act.put, List.setIfInBounds_toArray, List.set_cons_zero, List.set_cons_succ, qC, qD]
                   rfl
                 refine qU (i := 2) (N := some 32) (v := ?_) (a' := ?_) #[true, false, true, false, false, false, false, false, false, false, false, false] rfl rfl (qN HT_.out (by kernel_rfl)) (fun _ _ _ h => h) (Or.inl ⟨by rfl, ?_⟩) ?_ ?_;rotate_left
                 · intro w'
                   go_simp
                   with_reducible rfl
                 rotate_left
                 · simp only [Act.put, List.setIfInBounds_toArray, List.set_cons_zero, List.set_cons_succ, qC, qD]
                   rfl
                 refine qU (i := 5) (N := some 35) (v := ?_) (a' := ?_) #[true, false, true, false, false, true, false, false, false, false, false, false] rfl rfl (qN HT_.out (by kernel_rfl)) (fun _ _ _ h => h) (Or.inl ⟨by rfl, ?_⟩) ?_ ?_;rotate_left
                 · intro w'
                   go_simp
                   with_reducible rfl
                 rotate_left
                 · simp only [Act.put, List.setIfInBounds_toArray, List.set_cons_zero, List.set_cons_succ, qC, qD]
                   rfl
                 refine qU (i := 6) (N := some 36) (v := ?_) (a' := ?_) #[true, false, true, false, false, true, true, false, false, false, false, false] rfl rfl (qN HT_.out (by kernel_rfl)) (fun _ _ _ h => h) (Or.inl ⟨by rfl, ?_⟩) ?_ ?_;rotate_left
                 · intro w'
                   go_simp
                   with_reducible rfl
                 rotate_left
                 · simp only [Act.put, List.setIfInBounds_toArray, List.set_cons_zero, List.set_cons_succ, qC, qD]
                   rfl
                 refine qU (i := 8) (N := some 38) (v := ?_) (a' := ?_) #[true, false, true, false, false, true, true, false, true, false, false, false] rfl rfl (qN HT_.out (by kernel_rfl)) (fun _ _ _ h => h) (Or.inl ⟨by rfl, ?_⟩) ?_ ?_;rotate_left
                 · intro w'
                   go_simp
                   with_reducible rfl
                 rotate_left
                 · simp only [Act.put, List.setIfInBounds_toArray, List.set_cons_zero, List.set_cons_succ, qC, qD]
                   rfl
                 refine zz (i := 1) (N := some 31) (v := ?_) (a' := ?_) #[true, true, true, false, false, true, true, false, true, false, false, false] rfl rfl (z8 HT_.out HW_.out (by kernel_rfl)) (fun _ _ _ h => h) (Or.inl ⟨by rfl, ?_⟩) hHeld ?_ ?_;rotate_left
                 · rintro w' ⟨s0, s1, s2, s3, s4, s5, s6, s7, s8, s9⟩
                   go_simp
                   with_reducible rfl
                 rotate_left
                 · simp only [Act.put, List.setIfInBounds_toArray, List.set_cons_zero, List.set_cons_succ, qC, qD]
                   rfl
                 refine qU (i := 3) (N := some 33) (v := ?_) (a' := ?_) #[true, true, true, true, false, true, true, false, true, false, false, false] rfl rfl (qN HT_.out (by kernel_rfl)) (fun _ _ _ h => h) (Or.inl ⟨by rfl, ?_⟩) ?_ ?_;rotate_left
                 · intro w'
                   go_simp
                   with_reducible rfl
                 rotate_left
                 · simp only [Act.put, List.setIfInBounds_toArray, List.set_cons_zero, List.set_cons_succ, qC, qD]
                   rfl
                 refine zz (i := 4) (N := some 34) (v := ?_) (a' := ?_) #[true, true, true, true, true, true, true, false, true, false, false, false] rfl rfl (z8 HT_.out HW_.out (by kernel_rfl)) (fun _ _ _ h => h) (Or.inl ⟨by rfl, ?_⟩) hHeld ?_ ?_;rotate_left
                 · rintro w' ⟨s0, s1, s2, s3, s4, s5, s6, s7, s8, s9⟩
                   go_simp
                   with_reducible rfl
                 rotate_left
                 · simp only [Act.put, List.setIfInBounds_toArray, List.set_cons_zero, List.set_cons_succ, qC, qD]
                   rfl
                 refine zz (i := 7) (N := some 37) (v := ?_) (a' := ?_) #[true, true, true, true, true, true, true, true, true, false, false, false] rfl rfl (z8 HT_.out HW_.out (by kernel_rfl)) (fun _ _ _ h => h) (Or.inl ⟨by rfl, ?_⟩) hHeld ?_ ?_;rotate_left
                 · rintro w' ⟨s0, s1, s2, s3, s4, s5, s6, s7, s8, s9⟩
                   go_simp
                   with_reducible rfl
                 rotate_left
                 · simp only [Act.put, List.setIfInBounds_toArray, List.set_cons_zero, List.set_cons_succ, qC, qD]
                   rfl
                 refine one_ (i := 9) (N := some 39) #[true, true, true, true, true, true, true, true, true, true, false, false] rfl rfl (zx HT_.out (by kernel_rfl)) (by decide) (fun K hK => ?_);refine zW Tryd.func17 (by kernel_rfl) rfl #[.int .i64 af, .int .i64 ac] (by rfl) rfl rfl (by (try simp only [List.map_toArray, List.map_cons, List.map_nil]); first | done | rfl | (simp only [List.length_drop, List.length_take]; rfl)) ?_
                 with_reducible refine (qm.calls k1 af ac bc _ bq.out).mono ?_
                 rintro e w' ⟨rfl, ⟨nd, rfl⟩⟩
                 refine ⟨_, rfl, ?_⟩;refine hK.out _ _ ⟨(q9 aa.out 0).trans rfl, (q9 aa.out 1).trans rfl, (q9 aa.out 2).trans rfl, (q9 aa.out 3).trans rfl, (q9 aa.out 4).trans rfl, ((HB.out.cell (World.block_lt_of_cell? w _ ao)).trans ao), ((HB.out.cell (World.block_lt_of_cell? w _ an)).trans an), ((HB.out.cell (World.block_lt_of_cell? w _ am)).trans am), ((HB.out.cell (World.block_lt_of_cell? w _ al)).trans al), ((HB.out.cell (World.block_lt_of_cell? w _ ak)).trans ak)⟩ (fun hHeld => ?_);clear hK K;refine zI (a' := ?_) ?_ ?_;rotate_left
                 · show Act.put _ (some 39) _ = _
                   simp only [Act.put, List.setIfInBounds_toArray, List.set_cons_zero, List.set_cons_succ, qC, qD]
                   rfl
                 refine one_ (i := 10) (N := some 40) #[true, true, true, true, true, true, true, true, true, true, true, false] rfl rfl (zx HT_.out (by kernel_rfl)) (by decide) (fun K hK => ?_);refine zW Tryd.func9 (by kernel_rfl) rfl #[.agg #[.int .i64 ((qu ab ac).f0.f0), .int .i64 ((qu ab ac).f0.f1), .int .i64 ((qu ab ac).f0.f2), .string ((qu ab ac).f0.f3), .slice a7 ((qu ab ac).f1).length a8], .int .i64 bc] (by rfl) rfl rfl (by (try simp only [List.map_toArray, List.map_cons, List.map_nil]); first | done | rfl | (simp only [List.length_drop, List.length_take]; rfl)) ?_
                 with_reducible refine (ih k1 (by have := bg.out; omega) ((qu ab ac).f0.f0) ((qu ab ac).f0.f1) ((qu ab ac).f0.f2) ((qu ab ac).f0.f3) _ _ ((qu ab ac).f1) bc az _ ?side1 ?side2 bo.out).mono ?_
                 (case side1 => repeat (first | exact (Kd.C_below a5.out (by repeat (first | (with_reducible first | exact HB.out | apply qa | apply q8 | apply qb | refine qf ?_ a0.out) | exact HB.out))) | (with_reducible refine Kd.C_alloc ?_ _) | (with_reducible refine Kd.C_drewN ?_ _) | (with_reducible refine Kd.C_drew ?_)))
                 (case side2 => exact bb.out)
                 rintro e c8 ⟨rfl, hb⟩
                 refine ⟨_, rfl, ?_⟩;replace aa := Aside0.mk (qA (g := ae) (o := .cells #[.int .i64 af, .int .i64 ah, .int .i64 ai, .string aj, .slice (some ag) ab.length ay] 37 (0, 0)) (by (with_reducible repeat (first | refine qe ?_ _ | refine qg ?_ | refine qd ?_ _)); exact aa.out) hb);replace HB := Aside0.mk (qk (by repeat (first | (with_reducible first | exact HB.out | apply qa | apply q8 | apply qb | refine qf ?_ a0.out) | exact HB.out)) hb)
                 (try clear hb)
                 (try clear bu)
                 (try clear hk)
                 (try clear hi)
                 refine hK.out _ _ ⟨(q9 aa.out 0).trans rfl, (q9 aa.out 1).trans rfl, (q9 aa.out 2).trans rfl, (q9 aa.out 3).trans rfl, (q9 aa.out 4).trans rfl, ((HB.out.cell (World.block_lt_of_cell? w _ ao)).trans ao), ((HB.out.cell (World.block_lt_of_cell? w _ an)).trans an), ((HB.out.cell (World.block_lt_of_cell? w _ am)).trans am), ((HB.out.cell (World.block_lt_of_cell? w _ al)).trans al), ((HB.out.cell (World.block_lt_of_cell? w _ ak)).trans ak)⟩ (fun hHeld => ?_);clear hK K;refine zI (a' := ?_) ?_ ?_;rotate_left
                 · show Act.put _ (some 40) _ = _
                   simp only [Act.put, List.setIfInBounds_toArray, List.set_cons_zero, List.set_cons_succ, qC, qD]
                   rfl
                 refine qU (i := 11) (N := some 7) (v := ?_) (a' := ?_) #[true, true, true, true, true, true, true, true, true, true, true, true] rfl rfl (qN HT_.out (by kernel_rfl)) (fun _ _ _ h => h) (Or.inl ⟨by rfl, ?_⟩) ?_ ?_;rotate_left
                 · intro w'
                   go_simp
                   with_reducible rfl
                 rotate_left
                 · simp only [Act.put, List.setIfInBounds_toArray, List.set_cons_zero, List.set_cons_succ, qC, qD]
                   rfl
                 refine xU (xc HT_.out (by kernel_rfl)) ?_;have ip : c8.cell? ⟨ae, 0, none⟩ = some (.int .i64 af) := (q9 aa.out 0).trans rfl;have iq : c8.cell? ⟨ae, 1, none⟩ = some (.int .i64 ah) := (q9 aa.out 1).trans rfl;have ir : c8.cell? ⟨ae, 2, none⟩ = some (.int .i64 ai) := (q9 aa.out 2).trans rfl;have it : c8.cell? ⟨ae, 3, none⟩ = some (.string aj) := (q9 aa.out 3).trans rfl;have iu : c8.cell? ⟨ae, 4, none⟩ = some (.slice (some ag) ab.length ay) := (q9 aa.out 4).trans rfl;have iv := qc aa.out 0;have iw := qc aa.out 1;have ix := qc aa.out 2;have iy := qc aa.out 3;have iz := qc aa.out 4
                 try go_wp2
                 go_roundg k1
                 case measure => have := bg.out; omega
                 case rel => exact ⟨(dh), (wrap64 (ac + 1)), (by first | rfl | (simp; done) | (simp only [← br] <;> (first | rfl | simp)) | (simp [*]; done)), (by first | rfl | (simp; done) | (simp [*]; done)), H', ⟨by have := bg.out; omega⟩, ⟨by (with_reducible repeat (first | refine qe ?_ _ | refine qg ?_ | refine qd ?_ _)); exact aa.out⟩, ⟨by repeat (first | (with_reducible first | exact HB.out | apply qa | apply q8 | apply qb | refine qf ?_ a0.out) | exact HB.out)⟩⟩
               · rw [if_neg cg] at H
                 have gp : (af == 28) = false := beq_eq_false_iff_ne.mpr cg;have gq : (af != 28) = true := bne_iff_ne.mpr cg
                 by_cases ch : af = 29
                 · rw [if_pos ch] at H
                   have gr : (af == 29) = true := beq_iff_eq.mpr ch;have gs : (af != 29) = false := bne_eq_false_iff_eq.mpr ch;clear ch
                   (try clear bn); (try clear hji32w); (try clear bp); (try clear hji38w); (try clear br); (try clear hji44w)
                   obtain ⟨di, b8⟩ : ∃ j_ : Int, (mx a2 (wrap64 (az + 1))) = j_ := ⟨_, rfl⟩
                   replace H : (qn.l0 k1 di (wrap64 (ac + 1)) af ah ai aj ab) = some r := by first | (rw [b8] at H; exact H) | (simp only [b8] at H ⊢; exact H)
                   (try rw [b8] at bq)
                   (try rw [b8] at bo)
                   have hji50_ : (if a2 < (wrap64 (az + 1)) then (wrap64 (az + 1)) else a2) = di := b8;have H' := Aside0.mk H;clear H;have i0 : wr.cell? ⟨ae, 0, none⟩ = some (.int .i64 af) := (q9 aa.out 0).trans rfl;have i1 : wr.cell? ⟨ae, 1, none⟩ = some (.int .i64 ah) := (q9 aa.out 1).trans rfl;have i2 : wr.cell? ⟨ae, 2, none⟩ = some (.int .i64 ai) := (q9 aa.out 2).trans rfl;have i3 : wr.cell? ⟨ae, 3, none⟩ = some (.string aj) := (q9 aa.out 3).trans rfl;have i4 : wr.cell? ⟨ae, 4, none⟩ = some (.slice a6 ab.length ay) := (q9 aa.out 4).trans rfl;have i5 := qc aa.out 0;have i6 := qc aa.out 1;have i7 := qc aa.out 2;have i8 := qc aa.out 3;have i9 := qc aa.out 4
                   try go_wp2
                   replace aa := Aside0.mk (qg aa.out);replace HB := Aside0.mk (qb HB.out);have a9 : 0 ≤ (ac : Int) := of_decide_eq_true (by first | (with_reducible assumption) | assumption);have ba : ac < (ab.length : Int) := of_decide_eq_true (by first | (with_reducible assumption) | assumption);obtain ⟨ag, a7, a8, bm, ap, au, av, aw, ax, a3, a4⟩ := xg bf.out ac a9 ba;have ak := ax;have al := aw;have am := av;have an := au;have ao := ap;cases bm;replace ap := (HB.out.cell (World.block_lt_of_cell? w _ ap)).trans ap;replace au := (HB.out.cell (World.block_lt_of_cell? w _ au)).trans au;replace av := (HB.out.cell (World.block_lt_of_cell? w _ av)).trans av;replace aw := (HB.out.cell (World.block_lt_of_cell? w _ aw)).trans aw;replace ax := (HB.out.cell (World.block_lt_of_cell? w _ ax)).trans ax;have a5 := Aside0.mk a4;have bb := Aside0.mk a3;clear a4 a3;replace a9 := eq_true a9;replace ba := eq_true ba
                   refine xu (n := 12) (S := fun w' => w'.cell? ⟨ae, 0, none⟩ = some (.int .i64 af) ∧ w'.cell? ⟨ae, 1, none⟩ = some (.int .i64 ah) ∧ w'.cell? ⟨ae, 2, none⟩ = some (.int .i64 ai) ∧ w'.cell? ⟨ae, 3, none⟩ = some (.string aj) ∧ w'.cell? ⟨ae, 4, none⟩ = some (.slice (some ag) ab.length ay) ∧ w'.cell? (ag.add ((ac).toNat * 5)) = some (.int .i64 ((qu ab ac).f0.f0)) ∧ w'.cell? ⟨(ag.add ((ac).toNat * 5)).block, (ag.add ((ac).toNat * 5)).off + 1, none⟩ = some (.int .i64 ((qu ab ac).f0.f1)) ∧ w'.cell? ⟨(ag.add ((ac).toNat * 5)).block, (ag.add ((ac).toNat * 5)).off + 2, none⟩ = some (.int .i64 ((qu ab ac).f0.f2)) ∧ w'.cell? ⟨(ag.add ((ac).toNat * 5)).block, (ag.add ((ac).toNat * 5)).off + 3, none⟩ = some (.string ((qu ab ac).f0.f3)) ∧ w'.cell? ⟨(ag.add ((ac).toNat * 5)).block, (ag.add ((ac).toNat * 5)).off + 4, none⟩ = some (.slice a7 ((qu ab ac).f1).length a8)) (ds := []) #[false, false, false, false, false, false, false, false, false, false, false, false] (by kernel_rfl) rfl rfl ⟨(q9 aa.out 0).trans rfl, (q9 aa.out 1).trans rfl, (q9 aa.out 2).trans rfl, (q9 aa.out 3).trans rfl, (q9 aa.out 4).trans rfl, ((HB.out.cell (World.block_lt_of_cell? w _ ao)).trans ao), ((HB.out.cell (World.block_lt_of_cell? w _ an)).trans an), ((HB.out.cell (World.block_lt_of_cell? w _ am)).trans am), ((HB.out.cell (World.block_lt_of_cell? w _ al)).trans al), ((HB.out.cell (World.block_lt_of_cell? w _ ak)).trans ak)⟩ (fun hHeld => ?_); refine zE qn.tab9 qn.bits9 (fun HT_ HW_ => ?_)
                   generalize wr.drew = mm at aa HB a5 ap au av aw ax hHeld ⊢;refine qU (i := 0) (N := some 30) (v := ?_) (a' := ?_) #[true, false, false, false, false, false, false, false, false, false, false, false] rfl rfl (qN HT_.out (by kernel_rfl)) (fun _ _ _ h => h) (Or.inl ⟨by rfl, ?_⟩) ?_ ?_;rotate_left
                   · intro w'
                     go_simp
                     with_reducible rfl
                   rotate_left
                   · simp only [Act.put, List.setIfInBounds_toArray, List.set_cons_zero, List.set_cons_succ, qC, qD]
                     rfl
                   refine qU (i := 2) (N := some 32) (v := ?_) (a' := ?_) #[true, false, true, false, false, false, false, false, false, false, false, false] rfl rfl (qN HT_.out (by kernel_rfl)) (fun _ _ _ h => h) (Or.inl ⟨by rfl, ?_⟩) ?_ ?_;rotate_left
                   · intro w'
                     go_simp
                     with_reducible rfl
                   rotate_left
                   · simp only [Act.put, List.setIfInBounds_toArray, List.set_cons_zero, List.set_cons_succ, qC, qD]
                     rfl
                   refine qU (i := 5) (N := some 35) (v := ?_) (a' := ?_) #[true, false, true, false, false, true, false, false, false, false, false, false] rfl rfl (qN HT_.out (by kernel_rfl)) (fun _ _ _ h => h) (Or.inl ⟨by rfl, ?_⟩) ?_ ?_;rotate_left
                   · intro w'
                     go_simp
                     with_reducible rfl
                   rotate_left
                   · simp only [Act.put, List.setIfInBounds_toArray, List.set_cons_zero, List.set_cons_succ, qC, qD]
                     rfl
                   refine qU (i := 6) (N := some 36) (v := ?_) (a' := ?_) #[true, false, true, false, false, true, true, false, false, false, false, false] rfl rfl (qN HT_.out (by kernel_rfl)) (fun _ _ _ h => h) (Or.inl ⟨by rfl, ?_⟩) ?_ ?_;rotate_left
                   · intro w'
                     go_simp
                     with_reducible rfl
                   rotate_left
                   · simp only [Act.put, List.setIfInBounds_toArray, List.set_cons_zero, List.set_cons_succ, qC, qD]
                     rfl
                   refine qU (i := 8) (N := some 38) (v := ?_) (a' := ?_) #[true, false, true, false, false, true, true, false, true, false, false, false] rfl rfl (qN HT_.out (by kernel_rfl)) (fun _ _ _ h => h) (Or.inl ⟨by rfl, ?_⟩) ?_ ?_;rotate_left
                   · intro w'
                     go_simp
                     with_reducible rfl
                   rotate_left
                   · simp only [Act.put, List.setIfInBounds_toArray, List.set_cons_zero, List.set_cons_succ, qC, qD]
                     rfl
                   refine zz (i := 1) (N := some 31) (v := ?_) (a' := ?_) #[true, true, true, false, false, true, true, false, true, false, false, false] rfl rfl (z8 HT_.out HW_.out (by kernel_rfl)) (fun _ _ _ h => h) (Or.inl ⟨by rfl, ?_⟩) hHeld ?_ ?_;rotate_left
                   · rintro w' ⟨s0, s1, s2, s3, s4, s5, s6, s7, s8, s9⟩
                     go_simp
                     with_reducible rfl
                   rotate_left
                   · simp only [Act.put, List.setIfInBounds_toArray, List.set_cons_zero, List.set_cons_succ, qC, qD]
                     rfl
                   refine qU (i := 3) (N := some 33) (v := ?_) (a' := ?_) #[true, true, true, true, false, true, true, false, true, false, false, false] rfl rfl (qN HT_.out (by kernel_rfl)) (fun _ _ _ h => h) (Or.inl ⟨by rfl, ?_⟩) ?_ ?_;rotate_left
                   · intro w'
                     go_simp
                     with_reducible rfl
                   rotate_left
                   · simp only [Act.put, List.setIfInBounds_toArray, List.set_cons_zero, List.set_cons_succ, qC, qD]
                     rfl
                   refine zz (i := 4) (N := some 34) (v := ?_) (a' := ?_) #[true, true, true, true, true, true, true, false, true, false, false, false] rfl rfl (z8 HT_.out HW_.out (by kernel_rfl)) (fun _ _ _ h => h) (Or.inl ⟨by rfl, ?_⟩) hHeld ?_ ?_;rotate_left
                   · rintro w' ⟨s0, s1, s2, s3, s4, s5, s6, s7, s8, s9⟩
                     go_simp
                     with_reducible rfl
                   rotate_left
                   · simp only [Act.put, List.setIfInBounds_toArray, List.set_cons_zero, List.set_cons_succ, qC, qD]
                     rfl
                   refine zz (i := 7) (N := some 37) (v := ?_) (a' := ?_) #[true, true, true, true, true, true, true, true, true, false, false, false] rfl rfl (z8 HT_.out HW_.out (by kernel_rfl)) (fun _ _ _ h => h) (Or.inl ⟨by rfl, ?_⟩) hHeld ?_ ?_;rotate_left
                   · rintro w' ⟨s0, s1, s2, s3, s4, s5, s6, s7, s8, s9⟩
                     go_simp
                     with_reducible rfl
                   rotate_left
                   · simp only [Act.put, List.setIfInBounds_toArray, List.set_cons_zero, List.set_cons_succ, qC, qD]
                     rfl
                   refine one_ (i := 9) (N := some 39) #[true, true, true, true, true, true, true, true, true, true, false, false] rfl rfl (zx HT_.out (by kernel_rfl)) (by decide) (fun K hK => ?_);refine zW Tryd.func17 (by kernel_rfl) rfl #[.int .i64 af, .int .i64 ac] (by rfl) rfl rfl (by (try simp only [List.map_toArray, List.map_cons, List.map_nil]); first | done | rfl | (simp only [List.length_drop, List.length_take]; rfl)) ?_
                   with_reducible refine (qm.calls k1 af ac bc _ bq.out).mono ?_
                   rintro e w' ⟨rfl, ⟨nd, rfl⟩⟩
                   refine ⟨_, rfl, ?_⟩;refine hK.out _ _ ⟨(q9 aa.out 0).trans rfl, (q9 aa.out 1).trans rfl, (q9 aa.out 2).trans rfl, (q9 aa.out 3).trans rfl, (q9 aa.out 4).trans rfl, ((HB.out.cell (World.block_lt_of_cell? w _ ao)).trans ao), ((HB.out.cell (World.block_lt_of_cell? w _ an)).trans an), ((HB.out.cell (World.block_lt_of_cell? w _ am)).trans am), ((HB.out.cell (World.block_lt_of_cell? w _ al)).trans al), ((HB.out.cell (World.block_lt_of_cell? w _ ak)).trans ak)⟩ (fun hHeld => ?_);clear hK K;refine zI (a' := ?_) ?_ ?_;rotate_left
                   · show Act.put _ (some 39) _ = _
                     simp only [Act.put, List.setIfInBounds_toArray, List.set_cons_zero, List.set_cons_succ, qC, qD]
                     rfl
                   refine one_ (i := 10) (N := some 40) #[true, true, true, true, true, true, true, true, true, true, true, false] rfl rfl (zx HT_.out (by kernel_rfl)) (by decide) (fun K hK => ?_);refine zW Tryd.func9 (by kernel_rfl) rfl #[.agg #[.int .i64 ((qu ab ac).f0.f0), .int .i64 ((qu ab ac).f0.f1), .int .i64 ((qu ab ac).f0.f2), .string ((qu ab ac).f0.f3), .slice a7 ((qu ab ac).f1).length a8], .int .i64 bc] (by rfl) rfl rfl (by (try simp only [List.map_toArray, List.map_cons, List.map_nil]); first | done | rfl | (simp only [List.length_drop, List.length_take]; rfl)) ?_
                   with_reducible refine (ih k1 (by have := bg.out; omega) ((qu ab ac).f0.f0) ((qu ab ac).f0.f1) ((qu ab ac).f0.f2) ((qu ab ac).f0.f3) _ _ ((qu ab ac).f1) bc az _ ?side1 ?side2 bo.out).mono ?_
                   (case side1 => repeat (first | exact (Kd.C_below a5.out (by repeat (first | (with_reducible first | exact HB.out | apply qa | apply q8 | apply qb | refine qf ?_ a0.out) | exact HB.out))) | (with_reducible refine Kd.C_alloc ?_ _) | (with_reducible refine Kd.C_drewN ?_ _) | (with_reducible refine Kd.C_drew ?_)))
                   (case side2 => exact bb.out)
                   rintro e da ⟨rfl, hb⟩
                   refine ⟨_, rfl, ?_⟩;replace aa := Aside0.mk (qA (g := ae) (o := .cells #[.int .i64 af, .int .i64 ah, .int .i64 ai, .string aj, .slice (some ag) ab.length ay] 37 (0, 0)) (by (with_reducible repeat (first | refine qe ?_ _ | refine qg ?_ | refine qd ?_ _)); exact aa.out) hb);replace HB := Aside0.mk (qk (by repeat (first | (with_reducible first | exact HB.out | apply qa | apply q8 | apply qb | refine qf ?_ a0.out) | exact HB.out)) hb)
                   (try clear hb)
                   (try clear bu)
                   (try clear hk)
                   (try clear hi)
                   refine hK.out _ _ ⟨(q9 aa.out 0).trans rfl, (q9 aa.out 1).trans rfl, (q9 aa.out 2).trans rfl, (q9 aa.out 3).trans rfl, (q9 aa.out 4).trans rfl, ((HB.out.cell (World.block_lt_of_cell? w _ ao)).trans ao), ((HB.out.cell (World.block_lt_of_cell? w _ an)).trans an), ((HB.out.cell (World.block_lt_of_cell? w _ am)).trans am), ((HB.out.cell (World.block_lt_of_cell? w _ al)).trans al), ((HB.out.cell (World.block_lt_of_cell? w _ ak)).trans ak)⟩ (fun hHeld => ?_);clear hK K;refine zI (a' := ?_) ?_ ?_;rotate_left
                   · show Act.put _ (some 40) _ = _
                     simp only [Act.put, List.setIfInBounds_toArray, List.set_cons_zero, List.set_cons_succ, qC, qD]
                     rfl
                   refine qU (i := 11) (N := some 7) (v := ?_) (a' := ?_) #[true, true, true, true, true, true, true, true, true, true, true, true] rfl rfl (qN HT_.out (by kernel_rfl)) (fun _ _ _ h => h) (Or.inl ⟨by rfl, ?_⟩) ?_ ?_;rotate_left
                   · intro w'
                     go_simp
                     with_reducible rfl
                   rotate_left
                   · simp only [Act.put, List.setIfInBounds_toArray, List.set_cons_zero, List.set_cons_succ, qC, qD]
                     rfl
                   refine xU (xc HT_.out (by kernel_rfl)) ?_;have ja : da.cell? ⟨ae, 0, none⟩ = some (.int .i64 af) := (q9 aa.out 0).trans rfl;have jb : da.cell? ⟨ae, 1, none⟩ = some (.int .i64 ah) := (q9 aa.out 1).trans rfl;have jc : da.cell? ⟨ae, 2, none⟩ = some (.int .i64 ai) := (q9 aa.out 2).trans rfl;have jd : da.cell? ⟨ae, 3, none⟩ = some (.string aj) := (q9 aa.out 3).trans rfl;have je : da.cell? ⟨ae, 4, none⟩ = some (.slice (some ag) ab.length ay) := (q9 aa.out 4).trans rfl;have jf := qc aa.out 0;have jg := qc aa.out 1;have jh := qc aa.out 2;have ji := qc aa.out 3;have jj := qc aa.out 4
                   try go_wp2
                   go_roundg k1
                   case measure => have := bg.out; omega
                   case rel => exact ⟨(di), (wrap64 (ac + 1)), (by first | rfl | (simp; done) | (simp only [← b8] <;> (first | rfl | simp)) | (simp [*]; done)), (by first | rfl | (simp; done) | (simp [*]; done)), H', ⟨by have := bg.out; omega⟩, ⟨by (with_reducible repeat (first | refine qe ?_ _ | refine qg ?_ | refine qd ?_ _)); exact aa.out⟩, ⟨by repeat (first | (with_reducible first | exact HB.out | apply qa | apply q8 | apply qb | refine qf ?_ a0.out) | exact HB.out)⟩⟩
                 · rw [if_neg ch] at H
                   have gr : (af == 29) = false := beq_eq_false_iff_ne.mpr ch;have gs : (af != 29) = true := bne_iff_ne.mpr ch
                   by_cases ci : af = 27
                   · rw [if_pos ci] at H
                     have gt : (af == 27) = true := beq_iff_eq.mpr ci;have gu : (af != 27) = false := bne_eq_false_iff_eq.mpr ci;clear ci
                     by_cases cn : ac > 0
                     · rw [if_pos cn] at H
                       have gv : decide (0 < ac) = true := decide_eq_true cn;clear cn
                       (try clear bn); (try clear hji32w); (try clear bp); (try clear hji38w); (try clear br); (try clear hji44w); (try clear b8); (try clear hji50w)
                       obtain ⟨dj, cb⟩ : ∃ j_ : Int, (mx a2 (wrap64 (az + 1))) = j_ := ⟨_, rfl⟩
                       replace H : (qn.l0 k1 dj (wrap64 (ac + 1)) af ah ai aj ab) = some r := by first | (rw [cb] at H; exact H) | (simp only [cb] at H ⊢; exact H)
                       (try rw [cb] at bq)
                       (try rw [cb] at bo)
                       have hji57_ : (if a2 < (wrap64 (az + 1)) then (wrap64 (az + 1)) else a2) = dj := cb;have H' := Aside0.mk H;clear H;have jk : wr.cell? ⟨ae, 0, none⟩ = some (.int .i64 af) := (q9 aa.out 0).trans rfl;have jl : wr.cell? ⟨ae, 1, none⟩ = some (.int .i64 ah) := (q9 aa.out 1).trans rfl;have jm : wr.cell? ⟨ae, 2, none⟩ = some (.int .i64 ai) := (q9 aa.out 2).trans rfl;have jn : wr.cell? ⟨ae, 3, none⟩ = some (.string aj) := (q9 aa.out 3).trans rfl;have jo : wr.cell? ⟨ae, 4, none⟩ = some (.slice a6 ab.length ay) := (q9 aa.out 4).trans rfl;have jp := qc aa.out 0;have jq := qc aa.out 1;have jr := qc aa.out 2;have js := qc aa.out 3;have jt := qc aa.out 4
                       try go_wp2
                       replace aa := Aside0.mk (qg aa.out);replace HB := Aside0.mk (qb HB.out);have a9 : 0 ≤ (ac : Int) := of_decide_eq_true (by first | (with_reducible assumption) | assumption);have ba : ac < (ab.length : Int) := of_decide_eq_true (by first | (with_reducible assumption) | assumption);obtain ⟨ag, a7, a8, bm, ap, au, av, aw, ax, a3, a4⟩ := xg bf.out ac a9 ba;have ak := ax;have al := aw;have am := av;have an := au;have ao := ap;cases bm;replace ap := (HB.out.cell (World.block_lt_of_cell? w _ ap)).trans ap;replace au := (HB.out.cell (World.block_lt_of_cell? w _ au)).trans au;replace av := (HB.out.cell (World.block_lt_of_cell? w _ av)).trans av;replace aw := (HB.out.cell (World.block_lt_of_cell? w _ aw)).trans aw;replace ax := (HB.out.cell (World.block_lt_of_cell? w _ ax)).trans ax;have a5 := Aside0.mk a4;have bb := Aside0.mk a3;clear a4 a3;replace a9 := eq_true a9;replace ba := eq_true ba
                       refine xu (n := 12) (S := fun w' => w'.cell? ⟨ae, 0, none⟩ = some (.int .i64 af) ∧ w'.cell? ⟨ae, 1, none⟩ = some (.int .i64 ah) ∧ w'.cell? ⟨ae, 2, none⟩ = some (.int .i64 ai) ∧ w'.cell? ⟨ae, 3, none⟩ = some (.string aj) ∧ w'.cell? ⟨ae, 4, none⟩ = some (.slice (some ag) ab.length ay) ∧ w'.cell? (ag.add ((ac).toNat * 5)) = some (.int .i64 ((qu ab ac).f0.f0)) ∧ w'.cell? ⟨(ag.add ((ac).toNat * 5)).block, (ag.add ((ac).toNat * 5)).off + 1, none⟩ = some (.int .i64 ((qu ab ac).f0.f1)) ∧ w'.cell? ⟨(ag.add ((ac).toNat * 5)).block, (ag.add ((ac).toNat * 5)).off + 2, none⟩ = some (.int .i64 ((qu ab ac).f0.f2)) ∧ w'.cell? ⟨(ag.add ((ac).toNat * 5)).block, (ag.add ((ac).toNat * 5)).off + 3, none⟩ = some (.string ((qu ab ac).f0.f3)) ∧ w'.cell? ⟨(ag.add ((ac).toNat * 5)).block, (ag.add ((ac).toNat * 5)).off + 4, none⟩ = some (.slice a7 ((qu ab ac).f1).length a8)) (ds := []) #[false, false, false, false, false, false, false, false, false, false, false, false] (by kernel_rfl) rfl rfl ⟨(q9 aa.out 0).trans rfl, (q9 aa.out 1).trans rfl, (q9 aa.out 2).trans rfl, (q9 aa.out 3).trans rfl, (q9 aa.out 4).trans rfl, ((HB.out.cell (World.block_lt_of_cell? w _ ao)).trans ao), ((HB.out.cell (World.block_lt_of_cell? w _ an)).trans an), ((HB.out.cell (World.block_lt_of_cell? w _ am)).trans am), ((HB.out.cell (World.block_lt_of_cell? w _ al)).trans al), ((HB.out.cell (World.block_lt_of_cell? w _ ak)).trans ak)⟩ (fun hHeld => ?_); refine zE qn.tab9 qn.bits9 (fun HT_ HW_ => ?_)
                       generalize wr.drew = mn at aa HB a5 ap au av aw ax hHeld ⊢;refine qU (i := 0) (N := some 30) (v := ?_) (a' := ?_) #[true, false, false, false, false, false, false, false, false, false, false, false] rfl rfl (qN HT_.out (by kernel_rfl)) (fun _ _ _ h => h) (Or.inl ⟨by rfl, ?_⟩) ?_ ?_;rotate_left
                       · intro w'
                         go_simp
                         with_reducible rfl
                       rotate_left
                       · simp only [Act.put, List.setIfInBounds_toArray, List.set_cons_zero, List.set_cons_succ, qC, qD]
                         rfl
                       refine qU (i := 2) (N := some 32) (v := ?_) (a' := ?_) #[true, false, true, false, false, false, false, false, false, false, false, false] rfl rfl (qN HT_.out (by kernel_rfl)) (fun _ _ _ h => h) (Or.inl ⟨by rfl, ?_⟩) ?_ ?_;rotate_left
                       · intro w'
                         go_simp
                         with_reducible rfl
                       rotate_left
                       · simp only [Act.put, List.setIfInBounds_toArray, List.set_cons_zero, List.set_cons_succ, qC, qD]
                         rfl
                       refine qU (i := 5) (N := some 35) (v := ?_) (a' := ?_) #[true, false, true, false, false, true, false, false, false, false, false, false] rfl rfl (qN HT_.out (by kernel_rfl)) (fun _ _ _ h => h) (Or.inl ⟨by rfl, ?_⟩) ?_ ?_;rotate_left
                       · intro w'
                         go_simp
                         with_reducible rfl
                       rotate_left
                       · simp only [Act.put, List.setIfInBounds_toArray, List.set_cons_zero, List.set_cons_succ, qC, qD]
                         rfl
                       refine qU (i := 6) (N := some 36) (v := ?_) (a' := ?_) #[true, false, true, false, false, true, true, false, false, false, false, false] rfl rfl (qN HT_.out (by kernel_rfl)) (fun _ _ _ h => h) (Or.inl ⟨by rfl, ?_⟩) ?_ ?_;rotate_left
                       · intro w'
                         go_simp
                         with_reducible rfl
                       rotate_left
                       · simp only [Act.put, List.setIfInBounds_toArray, List.set_cons_zero, List.set_cons_succ, qC, qD]
                         rfl
                       refine qU (i := 8) (N := some 38) (v := ?_) (a' := ?_) #[true, false, true, false, false, true, true, false, true, false, false, false] rfl rfl (qN HT_.out (by kernel_rfl)) (fun _ _ _ h => h) (Or.inl ⟨by rfl, ?_⟩) ?_ ?_;rotate_left
                       · intro w'
                         go_simp
                         with_reducible rfl
                       rotate_left
                       · simp only [Act.put, List.setIfInBounds_toArray, List.set_cons_zero, List.set_cons_succ, qC, qD]
                         rfl
                       refine zz (i := 1) (N := some 31) (v := ?_) (a' := ?_) #[true, true, true, false, false, true, true, false, true, false, false, false] rfl rfl (z8 HT_.out HW_.out (by kernel_rfl)) (fun _ _ _ h => h) (Or.inl ⟨by rfl, ?_⟩) hHeld ?_ ?_;rotate_left
                       · rintro w' ⟨s0, s1, s2, s3, s4, s5, s6, s7, s8, s9⟩
                         go_simp
                         with_reducible rfl
                       rotate_left
                       · simp only [Act.put, List.setIfInBounds_toArray, List.set_cons_zero, List.set_cons_succ, qC, qD]
                         rfl
                       refine qU (i := 3) (N := some 33) (v := ?_) (a' := ?_) #[true, true, true, true, false, true, true, false, true, false, false, false] rfl rfl (qN HT_.out (by kernel_rfl)) (fun _ _ _ h => h) (Or.inl ⟨by rfl, ?_⟩) ?_ ?_;rotate_left
                       · intro w'
                         go_simp
                         with_reducible rfl
                       rotate_left
                       · simp only [Act.put, List.setIfInBounds_toArray, List.set_cons_zero, List.set_cons_succ, qC, qD]
                         rfl
                       refine zz (i := 4) (N := some 34) (v := ?_) (a' := ?_) #[true, true, true, true, true, true, true, false, true, false, false, false] rfl rfl (z8 HT_.out HW_.out (by kernel_rfl)) (fun _ _ _ h => h) (Or.inl ⟨by rfl, ?_⟩) hHeld ?_ ?_;rotate_left
                       · rintro w' ⟨s0, s1, s2, s3, s4, s5, s6, s7, s8, s9⟩
                         go_simp
                         with_reducible rfl
                       rotate_left
                       · simp only [Act.put, List.setIfInBounds_toArray, List.set_cons_zero, List.set_cons_succ, qC, qD]
                         rfl
                       refine zz (i := 7) (N := some 37) (v := ?_) (a' := ?_) #[true, true, true, true, true, true, true, true, true, false, false, false] rfl rfl (z8 HT_.out HW_.out (by kernel_rfl)) (fun _ _ _ h => h) (Or.inl ⟨by rfl, ?_⟩) hHeld ?_ ?_;rotate_left
                       · rintro w' ⟨s0, s1, s2, s3, s4, s5, s6, s7, s8, s9⟩
                         go_simp
                         with_reducible rfl
                       rotate_left
                       · simp only [Act.put, List.setIfInBounds_toArray, List.set_cons_zero, List.set_cons_succ, qC, qD]
                         rfl
                       refine one_ (i := 9) (N := some 39) #[true, true, true, true, true, true, true, true, true, true, false, false] rfl rfl (zx HT_.out (by kernel_rfl)) (by decide) (fun K hK => ?_);refine zW Tryd.func17 (by kernel_rfl) rfl #[.int .i64 af, .int .i64 ac] (by rfl) rfl rfl (by (try simp only [List.map_toArray, List.map_cons, List.map_nil]); first | done | rfl | (simp only [List.length_drop, List.length_take]; rfl)) ?_
                       with_reducible refine (qm.calls k1 af ac bc _ bq.out).mono ?_
                       rintro e w' ⟨rfl, ⟨nd, rfl⟩⟩
                       refine ⟨_, rfl, ?_⟩;refine hK.out _ _ ⟨(q9 aa.out 0).trans rfl, (q9 aa.out 1).trans rfl, (q9 aa.out 2).trans rfl, (q9 aa.out 3).trans rfl, (q9 aa.out 4).trans rfl, ((HB.out.cell (World.block_lt_of_cell? w _ ao)).trans ao), ((HB.out.cell (World.block_lt_of_cell? w _ an)).trans an), ((HB.out.cell (World.block_lt_of_cell? w _ am)).trans am), ((HB.out.cell (World.block_lt_of_cell? w _ al)).trans al), ((HB.out.cell (World.block_lt_of_cell? w _ ak)).trans ak)⟩ (fun hHeld => ?_);clear hK K;refine zI (a' := ?_) ?_ ?_;rotate_left
                       · show Act.put _ (some 39) _ = _
                         simp only [Act.put, List.setIfInBounds_toArray, List.set_cons_zero, List.set_cons_succ, qC, qD]
                         rfl
                       refine one_ (i := 10) (N := some 40) #[true, true, true, true, true, true, true, true, true, true, true, false] rfl rfl (zx HT_.out (by kernel_rfl)) (by decide) (fun K hK => ?_);refine zW Tryd.func9 (by kernel_rfl) rfl #[.agg #[.int .i64 ((qu ab ac).f0.f0), .int .i64 ((qu ab ac).f0.f1), .int .i64 ((qu ab ac).f0.f2), .string ((qu ab ac).f0.f3), .slice a7 ((qu ab ac).f1).length a8], .int .i64 bc] (by rfl) rfl rfl (by (try simp only [List.map_toArray, List.map_cons, List.map_nil]); first | done | rfl | (simp only [List.length_drop, List.length_take]; rfl)) ?_
                       with_reducible refine (ih k1 (by have := bg.out; omega) ((qu ab ac).f0.f0) ((qu ab ac).f0.f1) ((qu ab ac).f0.f2) ((qu ab ac).f0.f3) _ _ ((qu ab ac).f1) bc az _ ?side1 ?side2 bo.out).mono ?_
                       (case side1 => repeat (first | exact (Kd.C_below a5.out (by repeat (first | (with_reducible first | exact HB.out | apply qa | apply q8 | apply qb | refine qf ?_ a0.out) | exact HB.out))) | (with_reducible refine Kd.C_alloc ?_ _) | (with_reducible refine Kd.C_drewN ?_ _) | (with_reducible refine Kd.C_drew ?_)))
                       (case side2 => exact bb.out)
                       rintro e db ⟨rfl, hb⟩
                       refine ⟨_, rfl, ?_⟩;replace aa := Aside0.mk (qA (g := ae) (o := .cells #[.int .i64 af, .int .i64 ah, .int .i64 ai, .string aj, .slice (some ag) ab.length ay] 37 (0, 0)) (by (with_reducible repeat (first | refine qe ?_ _ | refine qg ?_ | refine qd ?_ _)); exact aa.out) hb);replace HB := Aside0.mk (qk (by repeat (first | (with_reducible first | exact HB.out | apply qa | apply q8 | apply qb | refine qf ?_ a0.out) | exact HB.out)) hb)
                       (try clear hb)
                       (try clear bu)
                       (try clear hk)
                       (try clear hi)
                       refine hK.out _ _ ⟨(q9 aa.out 0).trans rfl, (q9 aa.out 1).trans rfl, (q9 aa.out 2).trans rfl, (q9 aa.out 3).trans rfl, (q9 aa.out 4).trans rfl, ((HB.out.cell (World.block_lt_of_cell? w _ ao)).trans ao), ((HB.out.cell (World.block_lt_of_cell? w _ an)).trans an), ((HB.out.cell (World.block_lt_of_cell? w _ am)).trans am), ((HB.out.cell (World.block_lt_of_cell? w _ al)).trans al), ((HB.out.cell (World.block_lt_of_cell? w _ ak)).trans ak)⟩ (fun hHeld => ?_);clear hK K;refine zI (a' := ?_) ?_ ?_;rotate_left
                       · show Act.put _ (some 40) _ = _
                         simp only [Act.put, List.setIfInBounds_toArray, List.set_cons_zero, List.set_cons_succ, qC, qD]
                         rfl
                       refine qU (i := 11) (N := some 7) (v := ?_) (a' := ?_) #[true, true, true, true, true, true, true, true, true, true, true, true] rfl rfl (qN HT_.out (by kernel_rfl)) (fun _ _ _ h => h) (Or.inl ⟨by rfl, ?_⟩) ?_ ?_;rotate_left
                       · intro w'
                         go_simp
                         with_reducible rfl
                       rotate_left
                       · simp only [Act.put, List.setIfInBounds_toArray, List.set_cons_zero, List.set_cons_succ, qC, qD]
                         rfl
                       refine xU (xc HT_.out (by kernel_rfl)) ?_;have ju : db.cell? ⟨ae, 0, none⟩ = some (.int .i64 af) := (q9 aa.out 0).trans rfl;have jv : db.cell? ⟨ae, 1, none⟩ = some (.int .i64 ah) := (q9 aa.out 1).trans rfl;have jw : db.cell? ⟨ae, 2, none⟩ = some (.int .i64 ai) := (q9 aa.out 2).trans rfl;have jx : db.cell? ⟨ae, 3, none⟩ = some (.string aj) := (q9 aa.out 3).trans rfl;have jy : db.cell? ⟨ae, 4, none⟩ = some (.slice (some ag) ab.length ay) := (q9 aa.out 4).trans rfl;have jz := qc aa.out 0;have j3 := qc aa.out 1;have j4 := qc aa.out 2;have j5 := qc aa.out 3;have j6 := qc aa.out 4
                       try go_wp2
                       go_roundg k1
                       case measure => have := bg.out; omega
                       case rel => exact ⟨(dj), (wrap64 (ac + 1)), (by first | rfl | (simp; done) | (simp only [← cb] <;> (first | rfl | simp)) | (simp [*]; done)), (by first | rfl | (simp; done) | (simp [*]; done)), H', ⟨by have := bg.out; omega⟩, ⟨by (with_reducible repeat (first | refine qe ?_ _ | refine qg ?_ | refine qd ?_ _)); exact aa.out⟩, ⟨by repeat (first | (with_reducible first | exact HB.out | apply qa | apply q8 | apply qb | refine qf ?_ a0.out) | exact HB.out)⟩⟩
                     · rw [if_neg cn] at H
                       have gv : decide (0 < ac) = false := decide_eq_false cn;clear cn;obtain ⟨dk, b9⟩ : ∃ j_ : Int, (mx a2 az) = j_ := ⟨_, rfl⟩
                       replace H : (qn.l0 k1 dk (wrap64 (ac + 1)) af ah ai aj ab) = some r := by first | (rw [b9] at H; exact H) | (simp only [b9] at H ⊢; exact H)
                       (try rw [b9] at bq)
                       (try rw [b9] at bo)
                       have hji62_ : (if a2 < az then az else a2) = dk := b9;have H' := Aside0.mk H;clear H;have j7 : wr.cell? ⟨ae, 0, none⟩ = some (.int .i64 af) := (q9 aa.out 0).trans rfl;have j8 : wr.cell? ⟨ae, 1, none⟩ = some (.int .i64 ah) := (q9 aa.out 1).trans rfl;have j9 : wr.cell? ⟨ae, 2, none⟩ = some (.int .i64 ai) := (q9 aa.out 2).trans rfl;have ka : wr.cell? ⟨ae, 3, none⟩ = some (.string aj) := (q9 aa.out 3).trans rfl;have kb : wr.cell? ⟨ae, 4, none⟩ = some (.slice a6 ab.length ay) := (q9 aa.out 4).trans rfl;have kc := qc aa.out 0;have kd := qc aa.out 1;have ke := qc aa.out 2;have kf := qc aa.out 3;have kg := qc aa.out 4
                       try go_wp2
                       replace aa := Aside0.mk (qg aa.out);replace HB := Aside0.mk (qb HB.out);have a9 : 0 ≤ (ac : Int) := of_decide_eq_true (by first | (with_reducible assumption) | assumption);have ba : ac < (ab.length : Int) := of_decide_eq_true (by first | (with_reducible assumption) | assumption);obtain ⟨ag, a7, a8, bm, ap, au, av, aw, ax, a3, a4⟩ := xg bf.out ac a9 ba;have ak := ax;have al := aw;have am := av;have an := au;have ao := ap;cases bm;replace ap := (HB.out.cell (World.block_lt_of_cell? w _ ap)).trans ap;replace au := (HB.out.cell (World.block_lt_of_cell? w _ au)).trans au;replace av := (HB.out.cell (World.block_lt_of_cell? w _ av)).trans av;replace aw := (HB.out.cell (World.block_lt_of_cell? w _ aw)).trans aw;replace ax := (HB.out.cell (World.block_lt_of_cell? w _ ax)).trans ax;have a5 := Aside0.mk a4;have bb := Aside0.mk a3;clear a4 a3;replace a9 := eq_true a9;replace ba := eq_true ba
                       refine xu (n := 12) (S := fun w' => w'.cell? ⟨ae, 0, none⟩ = some (.int .i64 af) ∧ w'.cell? ⟨ae, 1, none⟩ = some (.int .i64 ah) ∧ w'.cell? ⟨ae, 2, none⟩ = some (.int .i64 ai) ∧ w'.cell? ⟨ae, 3, none⟩ = some (.string aj) ∧ w'.cell? ⟨ae, 4, none⟩ = some (.slice (some ag) ab.length ay) ∧ w'.cell? (ag.add ((ac).toNat * 5)) = some (.int .i64 ((qu ab ac).f0.f0)) ∧ w'.cell? ⟨(ag.add ((ac).toNat * 5)).block, (ag.add ((ac).toNat * 5)).off + 1, none⟩ = some (.int .i64 ((qu ab ac).f0.f1)) ∧ w'.cell? ⟨(ag.add ((ac).toNat * 5)).block, (ag.add ((ac).toNat * 5)).off + 2, none⟩ = some (.int .i64 ((qu ab ac).f0.f2)) ∧ w'.cell? ⟨(ag.add ((ac).toNat * 5)).block, (ag.add ((ac).toNat * 5)).off + 3, none⟩ = some (.string ((qu ab ac).f0.f3)) ∧ w'.cell? ⟨(ag.add ((ac).toNat * 5)).block, (ag.add ((ac).toNat * 5)).off + 4, none⟩ = some (.slice a7 ((qu ab ac).f1).length a8)) (ds := []) #[false, false, false, false, false, false, false, false, false, false, false, false] (by kernel_rfl) rfl rfl ⟨(q9 aa.out 0).trans rfl, (q9 aa.out 1).trans rfl, (q9 aa.out 2).trans rfl, (q9 aa.out 3).trans rfl, (q9 aa.out 4).trans rfl, ((HB.out.cell (World.block_lt_of_cell? w _ ao)).trans ao), ((HB.out.cell (World.block_lt_of_cell? w _ an)).trans an), ((HB.out.cell (World.block_lt_of_cell? w _ am)).trans am), ((HB.out.cell (World.block_lt_of_cell? w _ al)).trans al), ((HB.out.cell (World.block_lt_of_cell? w _ ak)).trans ak)⟩ (fun hHeld => ?_); refine zE qn.tab9 qn.bits9 (fun HT_ HW_ => ?_)
                       generalize wr.drew = mo at aa HB a5 ap au av aw ax hHeld ⊢;refine qU (i := 0) (N := some 30) (v := ?_) (a' := ?_) #[true, false, false, false, false, false, false, false, false, false, false, false] rfl rfl (qN HT_.out (by kernel_rfl)) (fun _ _ _ h => h) (Or.inl ⟨by rfl, ?_⟩) ?_ ?_;rotate_left
                       · intro w'
                         go_simp
                         with_reducible rfl
                       rotate_left
                       · simp only [Act.put, List.setIfInBounds_toArray, List.set_cons_zero, List.set_cons_succ, qC, qD]
                         rfl
                       refine qU (i := 2) (N := some 32) (v := ?_) (a' := ?_) #[true, false, true, false, false, false, false, false, false, false, false, false] rfl rfl (qN HT_.out (by kernel_rfl)) (fun _ _ _ h => h) (Or.inl ⟨by rfl, ?_⟩) ?_ ?_;rotate_left
                       · intro w'
                         go_simp
                         with_reducible rfl
                       rotate_left
                       · simp only [Act.put, List.setIfInBounds_toArray, List.set_cons_zero, List.set_cons_succ, qC, qD]
                         rfl
                       refine qU (i := 5) (N := some 35) (v := ?_) (a' := ?_) #[true, false, true, false, false, true, false, false, false, false, false, false] rfl rfl (qN HT_.out (by kernel_rfl)) (fun _ _ _ h => h) (Or.inl ⟨by rfl, ?_⟩) ?_ ?_;rotate_left
                       · intro w'
                         go_simp
                         with_reducible rfl
                       rotate_left
                       · simp only [Act.put, List.setIfInBounds_toArray, List.set_cons_zero, List.set_cons_succ, qC, qD]
                         rfl
                       refine qU (i := 6) (N := some 36) (v := ?_) (a' := ?_) #[true, false, true, false, false, true, true, false, false, false, false, false] rfl rfl (qN HT_.out (by kernel_rfl)) (fun _ _ _ h => h) (Or.inl ⟨by rfl, ?_⟩) ?_ ?_;rotate_left
                       · intro w'
                         go_simp
                         with_reducible rfl
                       rotate_left
                       · simp only [Act.put, List.setIfInBounds_toArray, List.set_cons_zero, List.set_cons_succ, qC, qD]
                         rfl
                       refine qU (i := 8) (N := some 38) (v := ?_) (a' := ?_) #[true, false, true, false, false, true, true, false, true, false, false, false] rfl rfl (qN HT_.out (by kernel_rfl)) (fun _ _ _ h => h) (Or.inl ⟨by rfl, ?_⟩) ?_ ?_;rotate_left
                       · intro w'
                         go_simp
                         with_reducible rfl
                       rotate_left
                       · simp only [Act.put, List.setIfInBounds_toArray, List.set_cons_zero, List.set_cons_succ, qC, qD]
                         rfl
                       refine zz (i := 1) (N := some 31) (v := ?_) (a' := ?_) #[true, true, true, false, false, true, true, false, true, false, false, false] rfl rfl (z8 HT_.out HW_.out (by kernel_rfl)) (fun _ _ _ h => h) (Or.inl ⟨by rfl, ?_⟩) hHeld ?_ ?_;rotate_left
                       · rintro w' ⟨s0, s1, s2, s3, s4, s5, s6, s7, s8, s9⟩
                         go_simp
                         with_reducible rfl
                       rotate_left
                       · simp only [Act.put, List.setIfInBounds_toArray, List.set_cons_zero, List.set_cons_succ, qC, qD]
                         rfl
                       refine qU (i := 3) (N := some 33) (v := ?_) (a' := ?_) #[true, true, true, true, false, true, true, false, true, false, false, false] rfl rfl (qN HT_.out (by kernel_rfl)) (fun _ _ _ h => h) (Or.inl ⟨by rfl, ?_⟩) ?_ ?_;rotate_left
                       · intro w'
                         go_simp
                         with_reducible rfl
                       rotate_left
                       · simp only [Act.put, List.setIfInBounds_toArray, List.set_cons_zero, List.set_cons_succ, qC, qD]
                         rfl
                       refine zz (i := 4) (N := some 34) (v := ?_) (a' := ?_) #[true, true, true, true, true, true, true, false, true, false, false, false] rfl rfl (z8 HT_.out HW_.out (by kernel_rfl)) (fun _ _ _ h => h) (Or.inl ⟨by rfl, ?_⟩) hHeld ?_ ?_;rotate_left
                       · rintro w' ⟨s0, s1, s2, s3, s4, s5, s6, s7, s8, s9⟩
                         go_simp
                         with_reducible rfl
                       rotate_left
                       · simp only [Act.put, List.setIfInBounds_toArray, List.set_cons_zero, List.set_cons_succ, qC, qD]
                         rfl
                       refine zz (i := 7) (N := some 37) (v := ?_) (a' := ?_) #[true, true, true, true, true, true, true, true, true, false, false, false] rfl rfl (z8 HT_.out HW_.out (by kernel_rfl)) (fun _ _ _ h => h) (Or.inl ⟨by rfl, ?_⟩) hHeld ?_ ?_;rotate_left
                       · rintro w' ⟨s0, s1, s2, s3, s4, s5, s6, s7, s8, s9⟩
                         go_simp
                         with_reducible rfl
                       rotate_left
                       · simp only [Act.put, List.setIfInBounds_toArray, List.set_cons_zero, List.set_cons_succ, qC, qD]
                         rfl
                       refine one_ (i := 9) (N := some 39) #[true, true, true, true, true, true, true, true, true, true, false, false] rfl rfl (zx HT_.out (by kernel_rfl)) (by decide) (fun K hK => ?_);refine zW Tryd.func17 (by kernel_rfl) rfl #[.int .i64 af, .int .i64 ac] (by rfl) rfl rfl (by (try simp only [List.map_toArray, List.map_cons, List.map_nil]); first | done | rfl | (simp only [List.length_drop, List.length_take]; rfl)) ?_
                       with_reducible refine (qm.calls k1 af ac bc _ bq.out).mono ?_
                       rintro e w' ⟨rfl, ⟨nd, rfl⟩⟩
                       refine ⟨_, rfl, ?_⟩;refine hK.out _ _ ⟨(q9 aa.out 0).trans rfl, (q9 aa.out 1).trans rfl, (q9 aa.out 2).trans rfl, (q9 aa.out 3).trans rfl, (q9 aa.out 4).trans rfl, ((HB.out.cell (World.block_lt_of_cell? w _ ao)).trans ao), ((HB.out.cell (World.block_lt_of_cell? w _ an)).trans an), ((HB.out.cell (World.block_lt_of_cell? w _ am)).trans am), ((HB.out.cell (World.block_lt_of_cell? w _ al)).trans al), ((HB.out.cell (World.block_lt_of_cell? w _ ak)).trans ak)⟩ (fun hHeld => ?_);clear hK K;refine zI (a' := ?_) ?_ ?_;rotate_left
                       · show Act.put _ (some 39) _ = _
                         simp only [Act.put, List.setIfInBounds_toArray, List.set_cons_zero, List.set_cons_succ, qC, qD]
                         rfl
                       refine one_ (i := 10) (N := some 40) #[true, true, true, true, true, true, true, true, true, true, true, false] rfl rfl (zx HT_.out (by kernel_rfl)) (by decide) (fun K hK => ?_);refine zW Tryd.func9 (by kernel_rfl) rfl #[.agg #[.int .i64 ((qu ab ac).f0.f0), .int .i64 ((qu ab ac).f0.f1), .int .i64 ((qu ab ac).f0.f2), .string ((qu ab ac).f0.f3), .slice a7 ((qu ab ac).f1).length a8], .int .i64 bc] (by rfl) rfl rfl (by (try simp only [List.map_toArray, List.map_cons, List.map_nil]); first | done | rfl | (simp only [List.length_drop, List.length_take]; rfl)) ?_
                       with_reducible refine (ih k1 (by have := bg.out; omega) ((qu ab ac).f0.f0) ((qu ab ac).f0.f1) ((qu ab ac).f0.f2) ((qu ab ac).f0.f3) _ _ ((qu ab ac).f1) bc az _ ?side1 ?side2 bo.out).mono ?_
                       (case side1 => repeat (first | exact (Kd.C_below a5.out (by repeat (first | (with_reducible first | exact HB.out | apply qa | apply q8 | apply qb | refine qf ?_ a0.out) | exact HB.out))) | (with_reducible refine Kd.C_alloc ?_ _) | (with_reducible refine Kd.C_drewN ?_ _) | (with_reducible refine Kd.C_drew ?_)))
                       (case side2 => exact bb.out)
                       rintro e dc ⟨rfl, hb⟩
                       refine ⟨_, rfl, ?_⟩;replace aa := Aside0.mk (qA (g := ae) (o := .cells #[.int .i64 af, .int .i64 ah, .int .i64 ai, .string aj, .slice (some ag) ab.length ay] 37 (0, 0)) (by (with_reducible repeat (first | refine qe ?_ _ | refine qg ?_ | refine qd ?_ _)); exact aa.out) hb);replace HB := Aside0.mk (qk (by repeat (first | (with_reducible first | exact HB.out | apply qa | apply q8 | apply qb | refine qf ?_ a0.out) | exact HB.out)) hb)
                       (try clear hb)
                       (try clear bu)
                       (try clear hk)
                       (try clear hi)
                       refine hK.out _ _ ⟨(q9 aa.out 0).trans rfl, (q9 aa.out 1).trans rfl, (q9 aa.out 2).trans rfl, (q9 aa.out 3).trans rfl, (q9 aa.out 4).trans rfl, ((HB.out.cell (World.block_lt_of_cell? w _ ao)).trans ao), ((HB.out.cell (World.block_lt_of_cell? w _ an)).trans an), ((HB.out.cell (World.block_lt_of_cell? w _ am)).trans am), ((HB.out.cell (World.block_lt_of_cell? w _ al)).trans al), ((HB.out.cell (World.block_lt_of_cell? w _ ak)).trans ak)⟩ (fun hHeld => ?_);clear hK K;refine zI (a' := ?_) ?_ ?_;rotate_left
                       · show Act.put _ (some 40) _ = _
                         simp only [Act.put, List.setIfInBounds_toArray, List.set_cons_zero, List.set_cons_succ, qC, qD]
                         rfl
                       refine qU (i := 11) (N := some 7) (v := ?_) (a' := ?_) #[true, true, true, true, true, true, true, true, true, true, true, true] rfl rfl (qN HT_.out (by kernel_rfl)) (fun _ _ _ h => h) (Or.inl ⟨by rfl, ?_⟩) ?_ ?_;rotate_left
                       · intro w'
                         go_simp
                         with_reducible rfl
                       rotate_left
                       · simp only [Act.put, List.setIfInBounds_toArray, List.set_cons_zero, List.set_cons_succ, qC, qD]
                         rfl
                       refine xU (xc HT_.out (by kernel_rfl)) ?_;have kh : dc.cell? ⟨ae, 0, none⟩ = some (.int .i64 af) := (q9 aa.out 0).trans rfl;have ki : dc.cell? ⟨ae, 1, none⟩ = some (.int .i64 ah) := (q9 aa.out 1).trans rfl;have kj : dc.cell? ⟨ae, 2, none⟩ = some (.int .i64 ai) := (q9 aa.out 2).trans rfl;have kk : dc.cell? ⟨ae, 3, none⟩ = some (.string aj) := (q9 aa.out 3).trans rfl;have kl : dc.cell? ⟨ae, 4, none⟩ = some (.slice (some ag) ab.length ay) := (q9 aa.out 4).trans rfl;have km := qc aa.out 0;have kn := qc aa.out 1;have ko := qc aa.out 2;have kp := qc aa.out 3;have kr := qc aa.out 4
                       try go_wp2
                       go_roundg k1
                       case measure => have := bg.out; omega
                       case rel => exact ⟨(dk), (wrap64 (ac + 1)), (by first | rfl | (simp; done) | (simp only [← b9] <;> (first | rfl | simp)) | (simp [*]; done)), (by first | rfl | (simp; done) | (simp [*]; done)), H', ⟨by have := bg.out; omega⟩, ⟨by (with_reducible repeat (first | refine qe ?_ _ | refine qg ?_ | refine qd ?_ _)); exact aa.out⟩, ⟨by repeat (first | (with_reducible first | exact HB.out | apply qa | apply q8 | apply qb | refine qf ?_ a0.out) | exact HB.out)⟩⟩
                   · rw [if_neg ci] at H
                     have gt : (af == 27) = false := beq_eq_false_iff_ne.mpr ci;have gu : (af != 27) = true := bne_iff_ne.mpr ci
                     (try clear b9); (try clear hji62w)
                     obtain ⟨dl, cc⟩ : ∃ j_ : Int, (mx a2 az) = j_ := ⟨_, rfl⟩
                     replace H : (qn.l0 k1 dl (wrap64 (ac + 1)) af ah ai aj ab) = some r := by first | (rw [cc] at H; exact H) | (simp only [cc] at H ⊢; exact H)
                     (try rw [cc] at bq)
                     (try rw [cc] at bo)
                     have hji67_ : (if a2 < az then az else a2) = dl := cc;have H' := Aside0.mk H;clear H;have ks : wr.cell? ⟨ae, 0, none⟩ = some (.int .i64 af) := (q9 aa.out 0).trans rfl;have kt : wr.cell? ⟨ae, 1, none⟩ = some (.int .i64 ah) := (q9 aa.out 1).trans rfl;have ku : wr.cell? ⟨ae, 2, none⟩ = some (.int .i64 ai) := (q9 aa.out 2).trans rfl;have kv : wr.cell? ⟨ae, 3, none⟩ = some (.string aj) := (q9 aa.out 3).trans rfl;have kw : wr.cell? ⟨ae, 4, none⟩ = some (.slice a6 ab.length ay) := (q9 aa.out 4).trans rfl;have kx := qc aa.out 0;have ky := qc aa.out 1;have kz := qc aa.out 2;have k0 := qc aa.out 3;have k4 := qc aa.out 4
                     try go_wp2
                     replace aa := Aside0.mk (qg aa.out);replace HB := Aside0.mk (qb HB.out);have a9 : 0 ≤ (ac : Int) := of_decide_eq_true (by first | (with_reducible assumption) | assumption);have ba : ac < (ab.length : Int) := of_decide_eq_true (by first | (with_reducible assumption) | assumption);obtain ⟨ag, a7, a8, bm, ap, au, av, aw, ax, a3, a4⟩ := xg bf.out ac a9 ba;have ak := ax;have al := aw;have am := av;have an := au;have ao := ap;cases bm;replace ap := (HB.out.cell (World.block_lt_of_cell? w _ ap)).trans ap;replace au := (HB.out.cell (World.block_lt_of_cell? w _ au)).trans au;replace av := (HB.out.cell (World.block_lt_of_cell? w _ av)).trans av;replace aw := (HB.out.cell (World.block_lt_of_cell? w _ aw)).trans aw;replace ax := (HB.out.cell (World.block_lt_of_cell? w _ ax)).trans ax;have a5 := Aside0.mk a4;have bb := Aside0.mk a3;clear a4 a3;replace a9 := eq_true a9;replace ba := eq_true ba
                     refine xu (n := 12) (S := fun w' => w'.cell? ⟨ae, 0, none⟩ = some (.int .i64 af) ∧ w'.cell? ⟨ae, 1, none⟩ = some (.int .i64 ah) ∧ w'.cell? ⟨ae, 2, none⟩ = some (.int .i64 ai) ∧ w'.cell? ⟨ae, 3, none⟩ = some (.string aj) ∧ w'.cell? ⟨ae, 4, none⟩ = some (.slice (some ag) ab.length ay) ∧ w'.cell? (ag.add ((ac).toNat * 5)) = some (.int .i64 ((qu ab ac).f0.f0)) ∧ w'.cell? ⟨(ag.add ((ac).toNat * 5)).block, (ag.add ((ac).toNat * 5)).off + 1, none⟩ = some (.int .i64 ((qu ab ac).f0.f1)) ∧ w'.cell? ⟨(ag.add ((ac).toNat * 5)).block, (ag.add ((ac).toNat * 5)).off + 2, none⟩ = some (.int .i64 ((qu ab ac).f0.f2)) ∧ w'.cell? ⟨(ag.add ((ac).toNat * 5)).block, (ag.add ((ac).toNat * 5)).off + 3, none⟩ = some (.string ((qu ab ac).f0.f3)) ∧ w'.cell? ⟨(ag.add ((ac).toNat * 5)).block, (ag.add ((ac).toNat * 5)).off + 4, none⟩ = some (.slice a7 ((qu ab ac).f1).length a8)) (ds := []) #[false, false, false, false, false, false, false, false, false, false, false, false] (by kernel_rfl) rfl rfl ⟨(q9 aa.out 0).trans rfl, (q9 aa.out 1).trans rfl, (q9 aa.out 2).trans rfl, (q9 aa.out 3).trans rfl, (q9 aa.out 4).trans rfl, ((HB.out.cell (World.block_lt_of_cell? w _ ao)).trans ao), ((HB.out.cell (World.block_lt_of_cell? w _ an)).trans an), ((HB.out.cell (World.block_lt_of_cell? w _ am)).trans am), ((HB.out.cell (World.block_lt_of_cell? w _ al)).trans al), ((HB.out.cell (World.block_lt_of_cell? w _ ak)).trans ak)⟩ (fun hHeld => ?_); refine zE qn.tab9 qn.bits9 (fun HT_ HW_ => ?_)
                     generalize wr.drew = mq at aa HB a5 ap au av aw ax hHeld ⊢;refine qU (i := 0) (N := some 30) (v := ?_) (a' := ?_) #[true, false, false, false, false, false, false, false, false, false, false, false] rfl rfl (qN HT_.out (by kernel_rfl)) (fun _ _ _ h => h) (Or.inl ⟨by rfl, ?_⟩) ?_ ?_;rotate_left
                     · intro w'
                       go_simp
                       with_reducible rfl
                     rotate_left
                     · simp only [Act.put, List.setIfInBounds_toArray, List.set_cons_zero, List.set_cons_succ, qC, qD]
                       rfl
                     refine qU (i := 2) (N := some 32) (v := ?_) (a' := ?_) #[true, false, true, false, false, false, false, false, false, false, false, false] rfl rfl (qN HT_.out (by kernel_rfl)) (fun _ _ _ h => h) (Or.inl ⟨by rfl, ?_⟩) ?_ ?_;rotate_left
                     · intro w'
                       go_simp
                       with_reducible rfl
                     rotate_left
                     · simp only [Act.put, List.setIfInBounds_toArray, List.set_cons_zero, List.set_cons_succ, qC, qD]
                       rfl
                     refine qU (i := 5) (N := some 35) (v := ?_) (a' := ?_) #[true, false, true, false, false, true, false, false, false, false, false, false] rfl rfl (qN HT_.out (by kernel_rfl)) (fun _ _ _ h => h) (Or.inl ⟨by rfl, ?_⟩) ?_ ?_;rotate_left
                     · intro w'
                       go_simp
                       with_reducible rfl
                     rotate_left
                     · simp only [Act.put, List.setIfInBounds_toArray, List.set_cons_zero, List.set_cons_succ, qC, qD]
                       rfl
                     refine qU (i := 6) (N := some 36) (v := ?_) (a' := ?_) #[true, false, true, false, false, true, true, false, false, false, false, false] rfl rfl (qN HT_.out (by kernel_rfl)) (fun _ _ _ h => h) (Or.inl ⟨by rfl, ?_⟩) ?_ ?_;rotate_left
                     · intro w'
                       go_simp
                       with_reducible rfl
                     rotate_left
                     · simp only [Act.put, List.setIfInBounds_toArray, List.set_cons_zero, List.set_cons_succ, qC, qD]
                       rfl
                     refine qU (i := 8) (N := some 38) (v := ?_) (a' := ?_) #[true, false, true, false, false, true, true, false, true, false, false, false] rfl rfl (qN HT_.out (by kernel_rfl)) (fun _ _ _ h => h) (Or.inl ⟨by rfl, ?_⟩) ?_ ?_;rotate_left
                     · intro w'
                       go_simp
                       with_reducible rfl
                     rotate_left
                     · simp only [Act.put, List.setIfInBounds_toArray, List.set_cons_zero, List.set_cons_succ, qC, qD]
                       rfl
                     refine zz (i := 1) (N := some 31) (v := ?_) (a' := ?_) #[true, true, true, false, false, true, true, false, true, false, false, false] rfl rfl (z8 HT_.out HW_.out (by kernel_rfl)) (fun _ _ _ h => h) (Or.inl ⟨by rfl, ?_⟩) hHeld ?_ ?_;rotate_left
                     · rintro w' ⟨s0, s1, s2, s3, s4, s5, s6, s7, s8, s9⟩
                       go_simp
                       with_reducible rfl
                     rotate_left
                     · simp only [Act.put, List.setIfInBounds_toArray, List.set_cons_zero, List.set_cons_succ, qC, qD]
                       rfl
                     refine qU (i := 3) (N := some 33) (v := ?_) (a' := ?_) #[true, true, true, true, false, true, true, false, true, false, false, false] rfl rfl (qN HT_.out (by kernel_rfl)) (fun _ _ _ h => h) (Or.inl ⟨by rfl, ?_⟩) ?_ ?_;rotate_left
                     · intro w'
                       go_simp
                       with_reducible rfl
                     rotate_left
                     · simp only [Act.put, List.setIfInBounds_toArray, List.set_cons_zero, List.set_cons_succ, qC, qD]
                       rfl
                     refine zz (i := 4) (N := some 34) (v := ?_) (a' := ?_) #[true, true, true, true, true, true, true, false, true, false, false, false] rfl rfl (z8 HT_.out HW_.out (by kernel_rfl)) (fun _ _ _ h => h) (Or.inl ⟨by rfl, ?_⟩) hHeld ?_ ?_;rotate_left
                     · rintro w' ⟨s0, s1, s2, s3, s4, s5, s6, s7, s8, s9⟩
                       go_simp
                       with_reducible rfl
                     rotate_left
                     · simp only [Act.put, List.setIfInBounds_toArray, List.set_cons_zero, List.set_cons_succ, qC, qD]
                       rfl
                     refine zz (i := 7) (N := some 37) (v := ?_) (a' := ?_) #[true, true, true, true, true, true, true, true, true, false, false, false] rfl rfl (z8 HT_.out HW_.out (by kernel_rfl)) (fun _ _ _ h => h) (Or.inl ⟨by rfl, ?_⟩) hHeld ?_ ?_;rotate_left
                     · rintro w' ⟨s0, s1, s2, s3, s4, s5, s6, s7, s8, s9⟩
                       go_simp
                       with_reducible rfl
                     rotate_left
                     · simp only [Act.put, List.setIfInBounds_toArray, List.set_cons_zero, List.set_cons_succ, qC, qD]
                       rfl
                     refine one_ (i := 9) (N := some 39) #[true, true, true, true, true, true, true, true, true, true, false, false] rfl rfl (zx HT_.out (by kernel_rfl)) (by decide) (fun K hK => ?_);refine zW Tryd.func17 (by kernel_rfl) rfl #[.int .i64 af, .int .i64 ac] (by rfl) rfl rfl (by (try simp only [List.map_toArray, List.map_cons, List.map_nil]); first | done | rfl | (simp only [List.length_drop, List.length_take]; rfl)) ?_
                     with_reducible refine (qm.calls k1 af ac bc _ bq.out).mono ?_
                     rintro e w' ⟨rfl, ⟨nd, rfl⟩⟩
                     refine ⟨_, rfl, ?_⟩;refine hK.out _ _ ⟨(q9 aa.out 0).trans rfl, (q9 aa.out 1).trans rfl, (q9 aa.out 2).trans rfl, (q9 aa.out 3).trans rfl, (q9 aa.out 4).trans rfl, ((HB.out.cell (World.block_lt_of_cell? w _ ao)).trans ao), ((HB.out.cell (World.block_lt_of_cell? w _ an)).trans an), ((HB.out.cell (World.block_lt_of_cell? w _ am)).trans am), ((HB.out.cell (World.block_lt_of_cell? w _ al)).trans al), ((HB.out.cell (World.block_lt_of_cell? w _ ak)).trans ak)⟩ (fun hHeld => ?_);clear hK K;refine zI (a' := ?_) ?_ ?_;rotate_left
                     · show Act.put _ (some 39) _ = _
                       simp only [Act.put, List.setIfInBounds_toArray, List.set_cons_zero, List.set_cons_succ, qC, qD]
                       rfl
                     refine one_ (i := 10) (N := some 40) #[true, true, true, true, true, true, true, true, true, true, true, false] rfl rfl (zx HT_.out (by kernel_rfl)) (by decide) (fun K hK => ?_);refine zW Tryd.func9 (by kernel_rfl) rfl #[.agg #[.int .i64 ((qu ab ac).f0.f0), .int .i64 ((qu ab ac).f0.f1), .int .i64 ((qu ab ac).f0.f2), .string ((qu ab ac).f0.f3), .slice a7 ((qu ab ac).f1).length a8], .int .i64 bc] (by rfl) rfl rfl (by (try simp only [List.map_toArray, List.map_cons, List.map_nil]); first | done | rfl | (simp only [List.length_drop, List.length_take]; rfl)) ?_
                     with_reducible refine (ih k1 (by have := bg.out; omega) ((qu ab ac).f0.f0) ((qu ab ac).f0.f1) ((qu ab ac).f0.f2) ((qu ab ac).f0.f3) _ _ ((qu ab ac).f1) bc az _ ?side1 ?side2 bo.out).mono ?_
                     (case side1 => repeat (first | exact (Kd.C_below a5.out (by repeat (first | (with_reducible first | exact HB.out | apply qa | apply q8 | apply qb | refine qf ?_ a0.out) | exact HB.out))) | (with_reducible refine Kd.C_alloc ?_ _) | (with_reducible refine Kd.C_drewN ?_ _) | (with_reducible refine Kd.C_drew ?_)))
                     (case side2 => exact bb.out)
                     rintro e dd ⟨rfl, hb⟩
                     refine ⟨_, rfl, ?_⟩;replace aa := Aside0.mk (qA (g := ae) (o := .cells #[.int .i64 af, .int .i64 ah, .int .i64 ai, .string aj, .slice (some ag) ab.length ay] 37 (0, 0)) (by (with_reducible repeat (first | refine qe ?_ _ | refine qg ?_ | refine qd ?_ _)); exact aa.out) hb);replace HB := Aside0.mk (qk (by repeat (first | (with_reducible first | exact HB.out | apply qa | apply q8 | apply qb | refine qf ?_ a0.out) | exact HB.out)) hb)
                     (try clear hb)
                     (try clear bu)
                     (try clear hk)
                     (try clear hi)
                     refine hK.out _ _ ⟨(q9 aa.out 0).trans rfl, (q9 aa.out 1).trans rfl, (q9 aa.out 2).trans rfl, (q9 aa.out 3).trans rfl, (q9 aa.out 4).trans rfl, ((HB.out.cell (World.block_lt_of_cell? w _ ao)).trans ao), ((HB.out.cell (World.block_lt_of_cell? w _ an)).trans an), ((HB.out.cell (World.block_lt_of_cell? w _ am)).trans am), ((HB.out.cell (World.block_lt_of_cell? w _ al)).trans al), ((HB.out.cell (World.block_lt_of_cell? w _ ak)).trans ak)⟩ (fun hHeld => ?_);clear hK K;refine zI (a' := ?_) ?_ ?_;rotate_left
                     · show Act.put _ (some 40) _ = _
                       simp only [Act.put, List.setIfInBounds_toArray, List.set_cons_zero, List.set_cons_succ, qC, qD]
                       rfl
                     refine qU (i := 11) (N := some 7) (v := ?_) (a' := ?_) #[true, true, true, true, true, true, true, true, true, true, true, true] rfl rfl (qN HT_.out (by kernel_rfl)) (fun _ _ _ h => h) (Or.inl ⟨by rfl, ?_⟩) ?_ ?_;rotate_left
                     · intro w'
                       go_simp
                       with_reducible rfl
                     rotate_left
                     · simp only [Act.put, List.setIfInBounds_toArray, List.set_cons_zero, List.set_cons_succ, qC, qD]
                       rfl
                     refine xU (xc HT_.out (by kernel_rfl)) ?_;have k5 : dd.cell? ⟨ae, 0, none⟩ = some (.int .i64 af) := (q9 aa.out 0).trans rfl;have k6 : dd.cell? ⟨ae, 1, none⟩ = some (.int .i64 ah) := (q9 aa.out 1).trans rfl;have k7 : dd.cell? ⟨ae, 2, none⟩ = some (.int .i64 ai) := (q9 aa.out 2).trans rfl;have k8 : dd.cell? ⟨ae, 3, none⟩ = some (.string aj) := (q9 aa.out 3).trans rfl;have k9 : dd.cell? ⟨ae, 4, none⟩ = some (.slice (some ag) ab.length ay) := (q9 aa.out 4).trans rfl;have lb := qc aa.out 0;have lc := qc aa.out 1;have lf := qc aa.out 2;have lg := qc aa.out 3;have lh := qc aa.out 4
                     try go_wp2
                     go_roundg k1
                     case measure => have := bg.out; omega
                     case rel => exact ⟨(dl), (wrap64 (ac + 1)), (by first | rfl | (simp; done) | (simp only [← cc] <;> (first | rfl | simp)) | (simp [*]; done)), (by first | rfl | (simp; done) | (simp [*]; done)), H', ⟨by have := bg.out; omega⟩, ⟨by (with_reducible repeat (first | refine qe ?_ _ | refine qg ?_ | refine qd ?_ _)); exact aa.out⟩, ⟨by repeat (first | (with_reducible first | exact HB.out | apply qa | apply q8 | apply qb | refine qf ?_ a0.out) | exact HB.out)⟩⟩
         · rw [if_neg dn] at H
           exact absurd H (by simp)
       · rw [if_neg cm] at H
         have gi : decide (ac < (ab.length : Int)) = false := decide_eq_false cm;clear cm;obtain rfl := Option.some.inj H;have ll : wr.cell? ⟨ae, 0, none⟩ = some (.int .i64 af) := (q9 aa.out 0).trans rfl;have lm : wr.cell? ⟨ae, 1, none⟩ = some (.int .i64 ah) := (q9 aa.out 1).trans rfl;have ln : wr.cell? ⟨ae, 2, none⟩ = some (.int .i64 ai) := (q9 aa.out 2).trans rfl;have lp : wr.cell? ⟨ae, 3, none⟩ = some (.string aj) := (q9 aa.out 3).trans rfl;have lq : wr.cell? ⟨ae, 4, none⟩ = some (.slice a6 ab.length ay) := (q9 aa.out 4).trans rfl;have lr := qc aa.out 0;have ls := qc aa.out 1;have lu := qc aa.out 2;have lv := qc aa.out 3;have lw := qc aa.out 4;go_wp2
         go_ret
         exact ⟨by first | rfl | (simp [qq, qr] <;> rfl) | (simp [*, qq, qr] <;> rfl), by repeat (first | (with_reducible first | exact HB.out | apply qa | apply q8 | apply qb | refine qf ?_ a0.out) | exact HB.out)⟩
end Go.Proofs.YtfmgbgkcmmpcfaaDoor.PTx

