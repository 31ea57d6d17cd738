import Derived.Test.YtfmgbgkcmmpcfaaDoorYPTxx0
namespace Go.Proofs.YtfmgbgkcmmpcfaaDoor.PTx
open Go.RowKit Go.Proofs.YtfmgbgkcmmpcfaaDoorW.PrintWords Go.Proofs.YtfmgbgkcmmpcfaaDoorW.PrintLast Go.Proofs.YtfmgbgkcmmpcfaaDoorW.PrintMore
attribute [local go_sem] zu zC
set_option linter.unusedVariables false
set_option linter.unusedSimpArgs false
def qW.f (ab : Int) (ac : Int) (ae : Int) (af : ByteArray) (aa : List (S37)) : Option (Bool) := if ab = 8 then (if 0 < (aa.length : Int) then (if ((qu aa 0).f0.f0) = 26 then (some true) else (if ((qu aa 0).f0.f0) = 27 then (some true) else (some (((qu aa 0).f0.f0) == 25)))) else (none)) else (some false)
set_option maxHeartbeats 8000000 in
set_option maxRecDepth 100000 in
theorem qW.calls (aj : Int) (ao : Int) (ap : Int) (au : ByteArray) (av : Option Addr) (aw : Nat) (ac : List (S37)) (r : Bool) (w : World) (a8 : Kd.C k37 w av ac.length ac) (a9 : ac.length ≤ aw) (h : qW.f aj ao ap au ac = some r) :
 Calls Tryd.prog 16 #[.agg #[.int .i64 aj, .int .i64 ao, .int .i64 ap, .string au, .slice av ac.length aw]] w fun e w' => e = .returned (.bool r) ∧ Below w.heap.size w w' := by
 have cv := Tryd.underlying37;have a1 := Aside0.mk a8;have cu := Aside0.mk a9;clear a8 a9;have HB := Aside0.mk (Below.refl w.heap.size w);have H : (if aj = 8 then (if 0 < (ac.length : Int) then (if ((qu ac 0).f0.f0) = 26 then (some true) else (if ((qu ac 0).f0.f0) = 27 then (some true) else (some (((qu ac 0).f0.f0) == 25)))) else (none)) else (some false)) = some r := h;clear h
 by_cases c2 : aj = 8
 · rw [if_pos c2] at H
   have bf : (aj == 8) = true := beq_iff_eq.mpr c2;have bg : (aj != 8) = false := bne_eq_false_iff_eq.mpr c2;clear c2
   by_cases c3 : 0 < (ac.length : Int)
   · rw [if_pos c3] at H
     have cw : decide (0 < (ac.length : Int)) = true := decide_eq_true c3;have cx : decide (0 < ac.length) = true := decide_eq_true (by omega);clear c3
     by_cases c4 : ((qu ac 0).f0.f0) = 26
     · rw [if_pos c4] at H
       have bh : (((qu ac 0).f0.f0) == 26) = true := beq_iff_eq.mpr c4;have bi : (((qu ac 0).f0.f0) != 26) = false := bne_eq_false_iff_eq.mpr c4;clear c4;obtain rfl := Option.some.inj H
       go_enter Tryd.func16, Tryd.ntmps16
       go_wp2_with (first | ((with_reducible refine qP (N := 1) rfl ?_); refine qM ?hg (N := 1) ?hd (cs := #[.int .i64 aj, .int .i64 ao, .int .i64 ap, .string au, .slice av ac.length aw]) (t := 37) ?hr ?_; (case hd => rfl); (case hg => rfl); (case hr => first | (go_simp; done) | (go_simp; rfl)); intro ab hg w5 hbox hb; have aa := Aside0.mk (hbox); have a2 := Aside0.mk ((by rw [hg]; exact (qt (by repeat (first | (with_reducible first | exact HB.out | apply qa | apply q8 | apply qb) | exact HB.out))) : w.heap.size ≤ ab)); have ax := Aside0.mk ((by rw [hg]; exact (qt (by repeat (first | (with_reducible first | exact HB.out | apply qa | apply q8 | apply qb) | exact HB.out))) : w.heap.size ≤ ab)); replace HB := Aside0.mk (qk (by repeat (first | (with_reducible first | exact HB.out | apply qa | apply q8 | apply qb) | exact HB.out)) hb); clear hb hbox hg; have b8 : w5.cell? ⟨ab, 0, none⟩ = some (.int .i64 aj) := (q9 aa.out 0).trans rfl; have b9 : w5.cell? ⟨ab, 1, none⟩ = some (.int .i64 ao) := (q9 aa.out 1).trans rfl; have ca : w5.cell? ⟨ab, 2, none⟩ = some (.int .i64 ap) := (q9 aa.out 2).trans rfl; have cb : w5.cell? ⟨ab, 3, none⟩ = some (.string au) := (q9 aa.out 3).trans rfl; have cc : w5.cell? ⟨ab, 4, none⟩ = some (.slice av ac.length aw) := (q9 aa.out 4).trans rfl; have cd := qc aa.out 0; have ce := qc aa.out 1; have cf := qc aa.out 2; have cg := qc aa.out 3; have ch := qc aa.out 4; have am : 0 ≤ (0 : Int) := (by omega); have an : 0 < (ac.length : Int) := of_decide_eq_true (by first | (with_reducible assumption) | assumption); obtain ⟨ba, a3, a4, ay, ae, af, ag, ah, ai, ak, al⟩ := xg a1.out 0 am an; cases ay; have bb : (0 < ac.length) = True := eq_true (by omega); (try rw [show ((0 : Int)).toNat = 0 from rfl] at ae); (try rw [show 0 * 5 = 0 from rfl] at ae); (try rw [Addr.add_zero'] at ae); (try rw [show ((0 : Int)).toNat = 0 from rfl] at af); (try rw [show 0 * 5 = 0 from rfl] at af); (try rw [Addr.add_zero'] at af); (try rw [show ((0 : Int)).toNat = 0 from rfl] at ag); (try rw [show 0 * 5 = 0 from rfl] at ag); (try rw [Addr.add_zero'] at ag); (try rw [show ((0 : Int)).toNat = 0 from rfl] at ah); (try rw [show 0 * 5 = 0 from rfl] at ah); (try rw [Addr.add_zero'] at ah); (try rw [show ((0 : Int)).toNat = 0 from rfl] at ai); (try rw [show 0 * 5 = 0 from rfl] at ai); (try rw [Addr.add_zero'] at ai); replace ae := (HB.out.cell (World.block_lt_of_cell? w _ ae)).trans ae; replace af := (HB.out.cell (World.block_lt_of_cell? w _ af)).trans af; replace ag := (HB.out.cell (World.block_lt_of_cell? w _ ag)).trans ag; replace ah := (HB.out.cell (World.block_lt_of_cell? w _ ah)).trans ah; replace ai := (HB.out.cell (World.block_lt_of_cell? w _ ai)).trans ai; have az := Aside0.mk al; have a0 := Aside0.mk ak; clear al ak; replace am := eq_true am; replace an := eq_true an))
       go_ret
       exact ⟨by first | rfl | (simp [qq, qr] <;> rfl) | (simp [*, qq, qr] <;> rfl), by repeat (first | (with_reducible first | exact HB.out | apply qa | apply q8 | apply qb | refine qf ?_ ax.out) | exact HB.out)⟩
     · rw [if_neg c4] at H
       have bh : (((qu ac 0).f0.f0) == 26) = false := beq_eq_false_iff_ne.mpr c4;have bi : (((qu ac 0).f0.f0) != 26) = true := bne_iff_ne.mpr c4
       by_cases c7 : ((qu ac 0).f0.f0) = 27
       · rw [if_pos c7] at H
         have bj : (((qu ac 0).f0.f0) == 27) = true := beq_iff_eq.mpr c7;have bk : (((qu ac 0).f0.f0) != 27) = false := bne_eq_false_iff_eq.mpr c7;clear c7;obtain rfl := Option.some.inj H
         go_enter Tryd.func16, Tryd.ntmps16
         go_wp2_with (first | ((with_reducible refine qP (N := 1) rfl ?_); refine qM ?hg (N := 1) ?hd (cs := #[.int .i64 aj, .int .i64 ao, .int .i64 ap, .string au, .slice av ac.length aw]) (t := 37) ?hr ?_; (case hd => rfl); (case hg => rfl); (case hr => first | (go_simp; done) | (go_simp; rfl)); intro ab hg w8 hbox hb; have aa := Aside0.mk (hbox); have a2 := Aside0.mk ((by rw [hg]; exact (qt (by repeat (first | (with_reducible first | exact HB.out | apply qa | apply q8 | apply qb) | exact HB.out))) : w.heap.size ≤ ab)); have ax := Aside0.mk ((by rw [hg]; exact (qt (by repeat (first | (with_reducible first | exact HB.out | apply qa | apply q8 | apply qb) | exact HB.out))) : w.heap.size ≤ ab)); replace HB := Aside0.mk (qk (by repeat (first | (with_reducible first | exact HB.out | apply qa | apply q8 | apply qb) | exact HB.out)) hb); clear hb hbox hg; have ci : w8.cell? ⟨ab, 0, none⟩ = some (.int .i64 aj) := (q9 aa.out 0).trans rfl; have cj : w8.cell? ⟨ab, 1, none⟩ = some (.int .i64 ao) := (q9 aa.out 1).trans rfl; have ck : w8.cell? ⟨ab, 2, none⟩ = some (.int .i64 ap) := (q9 aa.out 2).trans rfl; have cm : w8.cell? ⟨ab, 3, none⟩ = some (.string au) := (q9 aa.out 3).trans rfl; have cn : w8.cell? ⟨ab, 4, none⟩ = some (.slice av ac.length aw) := (q9 aa.out 4).trans rfl; have co := qc aa.out 0; have cp := qc aa.out 1; have cq := qc aa.out 2; have cr := qc aa.out 3; have ct := qc aa.out 4; have am : 0 ≤ (0 : Int) := (by omega); have an : 0 < (ac.length : Int) := of_decide_eq_true (by first | (with_reducible assumption) | assumption); obtain ⟨ba, a3, a4, ay, ae, af, ag, ah, ai, ak, al⟩ := xg a1.out 0 am an; cases ay; have bb : (0 < ac.length) = True := eq_true (by omega); (try rw [show ((0 : Int)).toNat = 0 from rfl] at ae); (try rw [show 0 * 5 = 0 from rfl] at ae); (try rw [Addr.add_zero'] at ae); (try rw [show ((0 : Int)).toNat = 0 from rfl] at af); (try rw [show 0 * 5 = 0 from rfl] at af); (try rw [Addr.add_zero'] at af); (try rw [show ((0 : Int)).toNat = 0 from rfl] at ag); (try rw [show 0 * 5 = 0 from rfl] at ag); (try rw [Addr.add_zero'] at ag); (try rw [show ((0 : Int)).toNat = 0 from rfl] at ah); (try rw [show 0 * 5 = 0 from rfl] at ah); (try rw [Addr.add_zero'] at ah); (try rw [show ((0 : Int)).toNat = 0 from rfl] at ai); (try rw [show 0 * 5 = 0 from rfl] at ai); (try rw [Addr.add_zero'] at ai); replace ae := (HB.out.cell (World.block_lt_of_cell? w _ ae)).trans ae; replace af := (HB.out.cell (World.block_lt_of_cell? w _ af)).trans af; replace ag := (HB.out.cell (World.block_lt_of_cell? w _ ag)).trans ag; replace ah := (HB.out.cell (World.block_lt_of_cell? w _ ah)).trans ah; replace ai := (HB.out.cell (World.block_lt_of_cell? w _ ai)).trans ai; have az := Aside0.mk al; have a0 := Aside0.mk ak; clear al ak; replace am := eq_true am; replace an := eq_true an))
         go_ret
         exact ⟨by first | rfl | (simp [qq, qr] <;> rfl) | (simp [*, qq, qr] <;> rfl), by repeat (first | (with_reducible first | exact HB.out | apply qa | apply q8 | apply qb | refine qf ?_ ax.out) | exact HB.out)⟩
       · rw [if_neg c7] at H
         have bj : (((qu ac 0).f0.f0) == 27) = false := beq_eq_false_iff_ne.mpr c7;have bk : (((qu ac 0).f0.f0) != 27) = true := bne_iff_ne.mpr c7;obtain rfl := Option.some.inj H
         go_enter Tryd.func16, Tryd.ntmps16
         go_wp2_with (first | ((with_reducible refine qP (N := 1) rfl ?_); refine qM ?hg (N := 1) ?hd (cs := #[.int .i64 aj, .int .i64 ao, .int .i64 ap, .string au, .slice av ac.length aw]) (t := 37) ?hr ?_; (case hd => rfl); (case hg => rfl); (case hr => first | (go_simp; done) | (go_simp; rfl)); intro ab hg a5 hbox hb; have aa := Aside0.mk (hbox); have a2 := Aside0.mk ((by rw [hg]; exact (qt (by repeat (first | (with_reducible first | exact HB.out | apply qa | apply q8 | apply qb) | exact HB.out))) : w.heap.size ≤ ab)); have ax := Aside0.mk ((by rw [hg]; exact (qt (by repeat (first | (with_reducible first | exact HB.out | apply qa | apply q8 | apply qb) | exact HB.out))) : w.heap.size ≤ ab)); replace HB := Aside0.mk (qk (by repeat (first | (with_reducible first | exact HB.out | apply qa | apply q8 | apply qb) | exact HB.out)) hb); clear hb hbox hg; have bl : a5.cell? ⟨ab, 0, none⟩ = some (.int .i64 aj) := (q9 aa.out 0).trans rfl; have bm : a5.cell? ⟨ab, 1, none⟩ = some (.int .i64 ao) := (q9 aa.out 1).trans rfl; have bn : a5.cell? ⟨ab, 2, none⟩ = some (.int .i64 ap) := (q9 aa.out 2).trans rfl; have bo : a5.cell? ⟨ab, 3, none⟩ = some (.string au) := (q9 aa.out 3).trans rfl; have bp : a5.cell? ⟨ab, 4, none⟩ = some (.slice av ac.length aw) := (q9 aa.out 4).trans rfl; have bq := qc aa.out 0; have br := qc aa.out 1; have bs := qc aa.out 2; have bu := qc aa.out 3; have bv := qc aa.out 4; have am : 0 ≤ (0 : Int) := (by omega); have an : 0 < (ac.length : Int) := of_decide_eq_true (by first | (with_reducible assumption) | assumption); obtain ⟨ba, a3, a4, ay, ae, af, ag, ah, ai, ak, al⟩ := xg a1.out 0 am an; cases ay; have bb : (0 < ac.length) = True := eq_true (by omega); (try rw [show ((0 : Int)).toNat = 0 from rfl] at ae); (try rw [show 0 * 5 = 0 from rfl] at ae); (try rw [Addr.add_zero'] at ae); (try rw [show ((0 : Int)).toNat = 0 from rfl] at af); (try rw [show 0 * 5 = 0 from rfl] at af); (try rw [Addr.add_zero'] at af); (try rw [show ((0 : Int)).toNat = 0 from rfl] at ag); (try rw [show 0 * 5 = 0 from rfl] at ag); (try rw [Addr.add_zero'] at ag); (try rw [show ((0 : Int)).toNat = 0 from rfl] at ah); (try rw [show 0 * 5 = 0 from rfl] at ah); (try rw [Addr.add_zero'] at ah); (try rw [show ((0 : Int)).toNat = 0 from rfl] at ai); (try rw [show 0 * 5 = 0 from rfl] at ai); (try rw [Addr.add_zero'] at ai); replace ae := (HB.out.cell (World.block_lt_of_cell? w _ ae)).trans ae; replace af := (HB.out.cell (World.block_lt_of_cell? w _ af)).trans af; replace ag := (HB.out.cell (World.block_lt_of_cell? w _ ag)).trans ag; replace ah := (HB.out.cell (World.block_lt_of_cell? w _ ah)).trans ah; replace ai := (HB.out.cell (World.block_lt_of_cell? w _ ai)).trans ai; have az := Aside0.mk al; have a0 := Aside0.mk ak; clear al ak; replace am := eq_true am; replace an := eq_true an))
         go_ret
         exact ⟨by first | rfl | (simp [qq, qr] <;> rfl) | (simp [*, qq, qr] <;> rfl), by repeat (first | (with_reducible first | exact HB.out | apply qa | apply q8 | apply qb | refine qf ?_ ax.out) | exact HB.out)⟩
   · rw [if_neg c3] at H
     exact absurd H (by simp)
 · rw [if_neg c2] at H
   have bf : (aj == 8) = false := beq_eq_false_iff_ne.mpr c2;have bg : (aj != 8) = true := bne_iff_ne.mpr c2;obtain rfl := Option.some.inj H
   go_enter Tryd.func16, Tryd.ntmps16
   go_wp2_with (first | ((with_reducible refine qP (N := 1) rfl ?_); refine qM ?hg (N := 1) ?hd (cs := #[.int .i64 aj, .int .i64 ao, .int .i64 ap, .string au, .slice av ac.length aw]) (t := 37) ?hr ?_; (case hd => rfl); (case hg => rfl); (case hr => first | (go_simp; done) | (go_simp; rfl)); intro ab hg a6 hbox hb; have aa := Aside0.mk (hbox); have a2 := Aside0.mk ((by rw [hg]; exact (qt (by repeat (first | (with_reducible first | exact HB.out | apply qa | apply q8 | apply qb) | exact HB.out))) : w.heap.size ≤ ab)); have ax := Aside0.mk ((by rw [hg]; exact (qt (by repeat (first | (with_reducible first | exact HB.out | apply qa | apply q8 | apply qb) | exact HB.out))) : w.heap.size ≤ ab)); replace HB := Aside0.mk (qk (by repeat (first | (with_reducible first | exact HB.out | apply qa | apply q8 | apply qb) | exact HB.out)) hb); clear hb hbox hg; have bw : a6.cell? ⟨ab, 0, none⟩ = some (.int .i64 aj) := (q9 aa.out 0).trans rfl; have bz : a6.cell? ⟨ab, 1, none⟩ = some (.int .i64 ao) := (q9 aa.out 1).trans rfl; have b0 : a6.cell? ⟨ab, 2, none⟩ = some (.int .i64 ap) := (q9 aa.out 2).trans rfl; have b1 : a6.cell? ⟨ab, 3, none⟩ = some (.string au) := (q9 aa.out 3).trans rfl; have b2 : a6.cell? ⟨ab, 4, none⟩ = some (.slice av ac.length aw) := (q9 aa.out 4).trans rfl; have b3 := qc aa.out 0; have b4 := qc aa.out 1; have b5 := qc aa.out 2; have b6 := qc aa.out 3; have b7 := qc aa.out 4))
   go_ret
   exact ⟨by first | rfl | (simp [qq, qr] <;> rfl) | (simp [*, qq, qr] <;> rfl), by repeat (first | (with_reducible first | exact HB.out | apply qa | apply q8 | apply qb | refine qf ?_ ax.out) | exact HB.out)⟩
mutual
def qp.j0 : Nat → Int → Bool → Option (Int)
 | 0, _, _ => none
 | k + 1, x5, x14 => if x14 = true then (some 4) else (if x5 = 16 then (some 5) else (if x5 = 11 then (qp.j1 k x5 (x5 == 11)) else (qp.j1 k x5 (x5 == 12))))
def qp.j1 : Nat → Int → Bool → Option (Int)
 | 0, _, _ => none
 | k + 1, x5, x28 => if x28 = true then (some 6) else (if x5 = 13 then (qp.j2 k x5 (x5 == 13)) else (if x5 = 14 then (qp.j2 k x5 (x5 == 14)) else (qp.j2 k x5 (x5 == 15))))
def qp.j2 : Nat → Int → Bool → Option (Int)
 | 0, _, _ => none
 | k + 1, x5, x31 => if x31 = true then (some 7) else (if x5 = 7 then (some 8) else (some 9))
end
def qp.f (k : Nat) (aa : Int) (ab : Int) (ac : Int) (ae : ByteArray) (af : List (S37)) : Option (Int) := if aa = 24 then (some 1) else (if aa = 23 then (some 2) else (if aa = 8 then ((qW.f aa ab ac ae af).bind fun ag => (if ag = true then (some 4) else (some 3))) else (if aa = 17 then (qp.j0 k aa (aa == 17)) else (if aa = 18 then (qp.j0 k aa (aa == 18)) else (if aa = 19 then (qp.j0 k aa (aa == 19)) else (if aa = 20 then (qp.j0 k aa (aa == 20)) else (if aa = 21 then (qp.j0 k aa (aa == 21)) else (if aa = 22 then (qp.j0 k aa (aa == 22)) else (if aa = 9 then (qp.j0 k aa (aa == 9)) else (if aa = 10 then (qp.j0 k aa (aa == 10)) else (if aa = 26 then (qp.j0 k aa (aa == 26)) else (if aa = 27 then (qp.j0 k aa (aa == 27)) else (qp.j0 k aa (aa == 25))))))))))))))
theorem qp.mono_l : ∀ k, (∀ y0 y1, LeO (qp.j0 k y0 y1) (qp.j0 (k + 1) y0 y1)) ∧ (∀ y0 y1, LeO (qp.j1 k y0 y1) (qp.j1 (k + 1) y0 y1)) ∧ (∀ y0 y1, LeO (qp.j2 k y0 y1) (qp.j2 (k + 1) y0 y1))
 | 0 => ⟨fun _ _ r h => by simp [qp.j0] at h, fun _ _ r h => by simp [qp.j1] at h, fun _ _ r h => by simp [qp.j2] at h⟩
 | k + 1 => by
  obtain ⟨ac, ae, af⟩ := qp.mono_l k;refine ⟨?_, ?_, ?_⟩
  · intro y0 y1
    unfold qp.j0
    repeat' first
    | (with_reducible exact ac _ _)
    | (with_reducible exact ae _ _)
    | (with_reducible exact af _ _)
    | (with_reducible exact LeO.refl _)
    | (with_reducible exact LeO.none _)
    | (with_reducible refine LeO.ite ?_ ?_)
    | (with_reducible refine LeO.bind ?_ (fun _ => ?_))
    | exact ac _ _
    | exact ae _ _
    | exact af _ _
    | exact LeO.none _
    | refine LeO.ite ?_ ?_
    | refine LeO.bind ?_ (fun _ => ?_)
  · intro y0 y1
    unfold qp.j1
    repeat' first
    | (with_reducible exact ac _ _)
    | (with_reducible exact ae _ _)
    | (with_reducible exact af _ _)
    | (with_reducible exact LeO.refl _)
    | (with_reducible exact LeO.none _)
    | (with_reducible refine LeO.ite ?_ ?_)
    | (with_reducible refine LeO.bind ?_ (fun _ => ?_))
    | exact ac _ _
    | exact ae _ _
    | exact af _ _
    | exact LeO.none _
    | refine LeO.ite ?_ ?_
    | refine LeO.bind ?_ (fun _ => ?_)
  · intro y0 y1
    unfold qp.j2
    repeat' first
    | (with_reducible exact ac _ _)
    | (with_reducible exact ae _ _)
    | (with_reducible exact af _ _)
    | (with_reducible exact LeO.refl _)
    | (with_reducible exact LeO.none _)
    | (with_reducible refine LeO.ite ?_ ?_)
    | (with_reducible refine LeO.bind ?_ (fun _ => ?_))
    | exact ac _ _
    | exact ae _ _
    | exact af _ _
    | exact LeO.none _
    | refine LeO.ite ?_ ?_
    | refine LeO.bind ?_ (fun _ => ?_)
theorem qp.mono : ∀ a0 a1 a2 a3 a4 k, LeO (qp.f k a0 a1 a2 a3 a4) (qp.f (k + 1) a0 a1 a2 a3 a4) := by
 intro a0 a1 a2 a3 a4 k;obtain ⟨aa, ab, ac⟩ := qp.mono_l k;unfold qp.f
 repeat' first
  | (with_reducible exact aa _ _)
  | (with_reducible exact ab _ _)
  | (with_reducible exact ac _ _)
  | (with_reducible exact LeO.refl _)
  | (with_reducible exact LeO.none _)
  | (with_reducible refine LeO.ite ?_ ?_)
  | (with_reducible refine LeO.bind ?_ (fun _ => ?_))
  | exact aa _ _
  | exact ab _ _
  | exact ac _ _
  | exact LeO.none _
  | refine LeO.ite ?_ ?_
  | refine LeO.bind ?_ (fun _ => ?_)
set_option maxHeartbeats 8000000 in
set_option maxRecDepth 100000 in
theorem qp.calls (k : Nat) (aa : Int) (ag : Int) (ah : Int) (ai : ByteArray) (aj : Option Addr) (ak : Nat) (af : List (S37)) (r : Int) (w : World) (ee : Kd.C k37 w aj af.length af) (ef : af.length ≤ ak) (h : qp.f k aa ag ah ai af = some r) :
 Calls Tryd.prog 15 #[.agg #[.int .i64 aa, .int .i64 ag, .int .i64 ah, .string ai, .slice aj af.length ak]] w fun e w' => e = .returned (.int .i64 r) ∧ Below w.heap.size w w' := by
 have e2 := Tryd.underlying37;have eg := Aside0.mk ee;have eh := Aside0.mk ef;clear ee ef;have HB := Aside0.mk (Below.refl w.heap.size w);have H : (if aa = 24 then (some 1) else (if aa = 23 then (some 2) else (if aa = 8 then ((qW.f aa ag ah ai af).bind fun dt => (if dt = true then (some 4) else (some 3))) else (if aa = 17 then (qp.j0 k aa (aa == 17)) else (if aa = 18 then (qp.j0 k aa (aa == 18)) else (if aa = 19 then (qp.j0 k aa (aa == 19)) else (if aa = 20 then (qp.j0 k aa (aa == 20)) else (if aa = 21 then (qp.j0 k aa (aa == 21)) else (if aa = 22 then (qp.j0 k aa (aa == 22)) else (if aa = 9 then (qp.j0 k aa (aa == 9)) else (if aa = 10 then (qp.j0 k aa (aa == 10)) else (if aa = 26 then (qp.j0 k aa (aa == 26)) else (if aa = 27 then (qp.j0 k aa (aa == 27)) else (qp.j0 k aa (aa == 25))))))))))))))) = some r := h;clear h
 by_cases c2 : aa = 24
 · rw [if_pos c2] at H
   have du : (aa == 24) = true := beq_iff_eq.mpr c2;have dv : (aa != 24) = false := bne_eq_false_iff_eq.mpr c2;clear c2;obtain rfl := Option.some.inj H
   go_enter Tryd.func15, Tryd.ntmps15
   go_wp2_with (first | ((with_reducible refine qP (N := 1) rfl ?_); refine qM ?hg (N := 1) ?hd (cs := #[.int .i64 aa, .int .i64 ag, .int .i64 ah, .string ai, .slice aj af.length ak]) (t := 37) ?hr ?_; (case hd => rfl); (case hg => rfl); (case hr => first | (go_simp; done) | (go_simp; rfl)); intro ac hg w3 hbox hb; have ab := Aside0.mk (hbox); have b7 := Aside0.mk ((by rw [hg]; exact (qt (by repeat (first | (with_reducible first | exact HB.out | apply qa | apply q8 | apply qb) | exact HB.out))) : w.heap.size ≤ ac)); have ae := Aside0.mk ((by rw [hg]; exact (qt (by repeat (first | (with_reducible first | exact HB.out | apply qa | apply q8 | apply qb) | exact HB.out))) : w.heap.size ≤ ac)); replace HB := Aside0.mk (qk (by repeat (first | (with_reducible first | exact HB.out | apply qa | apply q8 | apply qb) | exact HB.out)) hb); clear hb hbox hg; have ct : w3.cell? ⟨ac, 0, none⟩ = some (.int .i64 aa) := (q9 ab.out 0).trans rfl; have cu : w3.cell? ⟨ac, 1, none⟩ = some (.int .i64 ag) := (q9 ab.out 1).trans rfl; have cv : w3.cell? ⟨ac, 2, none⟩ = some (.int .i64 ah) := (q9 ab.out 2).trans rfl; have cw : w3.cell? ⟨ac, 3, none⟩ = some (.string ai) := (q9 ab.out 3).trans rfl; have cx : w3.cell? ⟨ac, 4, none⟩ = some (.slice aj af.length ak) := (q9 ab.out 4).trans rfl; have cy := qc ab.out 0; have cz := qc ab.out 1; have c6 := qc ab.out 2; have c7 := qc ab.out 3; have c9 := qc ab.out 4))
   go_ret
   exact ⟨by first | rfl | (simp [qq, qr] <;> rfl) | (simp [*, qq, qr] <;> rfl), by repeat (first | (with_reducible first | exact HB.out | apply qa | apply q8 | apply qb | refine qf ?_ ae.out) | exact HB.out)⟩
 · rw [if_neg c2] at H
   have du : (aa == 24) = false := beq_eq_false_iff_ne.mpr c2;have dv : (aa != 24) = true := bne_iff_ne.mpr c2
   by_cases c5 : aa = 23
   · rw [if_pos c5] at H
     have dw : (aa == 23) = true := beq_iff_eq.mpr c5;have dx : (aa != 23) = false := bne_eq_false_iff_eq.mpr c5;clear c5;obtain rfl := Option.some.inj H
     go_enter Tryd.func15, Tryd.ntmps15
     go_wp2_with (first | ((with_reducible refine qP (N := 1) rfl ?_); refine qM ?hg (N := 1) ?hd (cs := #[.int .i64 aa, .int .i64 ag, .int .i64 ah, .string ai, .slice aj af.length ak]) (t := 37) ?hr ?_; (case hd => rfl); (case hg => rfl); (case hr => first | (go_simp; done) | (go_simp; rfl)); intro ac hg w6 hbox hb; have ab := Aside0.mk (hbox); have b7 := Aside0.mk ((by rw [hg]; exact (qt (by repeat (first | (with_reducible first | exact HB.out | apply qa | apply q8 | apply qb) | exact HB.out))) : w.heap.size ≤ ac)); have ae := Aside0.mk ((by rw [hg]; exact (qt (by repeat (first | (with_reducible first | exact HB.out | apply qa | apply q8 | apply qb) | exact HB.out))) : w.heap.size ≤ ac)); replace HB := Aside0.mk (qk (by repeat (first | (with_reducible first | exact HB.out | apply qa | apply q8 | apply qb) | exact HB.out)) hb); clear hb hbox hg; have da : w6.cell? ⟨ac, 0, none⟩ = some (.int .i64 aa) := (q9 ab.out 0).trans rfl; have db : w6.cell? ⟨ac, 1, none⟩ = some (.int .i64 ag) := (q9 ab.out 1).trans rfl; have dc : w6.cell? ⟨ac, 2, none⟩ = some (.int .i64 ah) := (q9 ab.out 2).trans rfl; have dd : w6.cell? ⟨ac, 3, none⟩ = some (.string ai) := (q9 ab.out 3).trans rfl; have de : w6.cell? ⟨ac, 4, none⟩ = some (.slice aj af.length ak) := (q9 ab.out 4).trans rfl; have df := qc ab.out 0; have dh := qc ab.out 1; have di := qc ab.out 2; have dj := qc ab.out 3; have dk := qc ab.out 4))
     go_ret
     exact ⟨by first | rfl | (simp [qq, qr] <;> rfl) | (simp [*, qq, qr] <;> rfl), by repeat (first | (with_reducible first | exact HB.out | apply qa | apply q8 | apply qb | refine qf ?_ ae.out) | exact HB.out)⟩
   · rw [if_neg c5] at H
     have dw : (aa == 23) = false := beq_eq_false_iff_ne.mpr c5;have dx : (aa != 23) = true := bne_iff_ne.mpr c5
     by_cases c8 : aa = 8
     · rw [if_pos c8] at H
       have dy : (aa == 8) = true := beq_iff_eq.mpr c8;have dz : (aa != 8) = false := bne_eq_false_iff_eq.mpr c8;clear c8;replace H := Option.bind_eq_some_iff.mp H;obtain ⟨dt, et, H⟩ := H;replace H : (if dt = true then (some 4) else (some 3)) = some r := H;have A9 := Aside0.mk et;clear et
       by_cases dl : dt = true
       · subst dl
         have H1 : (some 4) = some r := by rw [if_pos rfl] at H; exact H
         clear H;have H := H1;clear H1;obtain rfl := Option.some.inj H
         go_enter Tryd.func15, Tryd.ntmps15
         go_wp2_with (first | ((with_reducible refine qP (N := 1) rfl ?_); refine qM ?hg (N := 1) ?hd (cs := #[.int .i64 aa, .int .i64 ag, .int .i64 ah, .string ai, .slice aj af.length ak]) (t := 37) ?hr ?_; (case hd => rfl); (case hg => rfl); (case hr => first | (go_simp; done) | (go_simp; rfl)); intro ac hg d5 hbox hb; have ab := Aside0.mk (hbox); have b7 := Aside0.mk ((by rw [hg]; exact (qt (by repeat (first | (with_reducible first | exact HB.out | apply qa | apply q8 | apply qb) | exact HB.out))) : w.heap.size ≤ ac)); have ae := Aside0.mk ((by rw [hg]; exact (qt (by repeat (first | (with_reducible first | exact HB.out | apply qa | apply q8 | apply qb) | exact HB.out))) : w.heap.size ≤ ac)); replace HB := Aside0.mk (qk (by repeat (first | (with_reducible first | exact HB.out | apply qa | apply q8 | apply qb) | exact HB.out)) hb); clear hb hbox hg; have a7 : d5.cell? ⟨ac, 0, none⟩ = some (.int .i64 aa) := (q9 ab.out 0).trans rfl; have a8 : d5.cell? ⟨ac, 1, none⟩ = some (.int .i64 ag) := (q9 ab.out 1).trans rfl; have a9 : d5.cell? ⟨ac, 2, none⟩ = some (.int .i64 ah) := (q9 ab.out 2).trans rfl; have ba : d5.cell? ⟨ac, 3, none⟩ = some (.string ai) := (q9 ab.out 3).trans rfl; have bb : d5.cell? ⟨ac, 4, none⟩ = some (.slice aj af.length ak) := (q9 ab.out 4).trans rfl; have bc := qc ab.out 0; have bd := qc ab.out 1; have bf := qc ab.out 2; have bg := qc ab.out 3; have bh := qc ab.out 4) | ((with_reducible refine qG (f := 16) rfl ?_); refine zc (some 13) rfl rfl Tryd.func16 (by kernel_rfl) rfl #[.agg #[.int .i64 aa, .int .i64 ag, .int .i64 ah, .string ai, .slice aj af.length ak]] rfl (by (try simp only [List.map_toArray, List.map_cons, List.map_nil]); first | done | rfl | (simp only [List.length_drop, List.length_take]; rfl)) ?_; (with_reducible refine (qW.calls aa ag ah ai _ _ af true _ ?side1 ?side2 A9.out).mono ?_); (case side1 => repeat (first | exact (Kd.C_below eg.out HB.out) | (with_reducible refine Kd.C_alloc ?_ _) | (with_reducible refine Kd.C_drewN ?_ _) | (with_reducible refine Kd.C_drew ?_))); (case side2 => exact eh.out); rintro e e5 ⟨rfl, hb⟩; refine ⟨_, rfl, ?_⟩; replace ab := Aside0.mk (qA (g := ac) (o := .cells #[.int .i64 aa, .int .i64 ag, .int .i64 ah, .string ai, .slice aj af.length ak] 37 (0, 0)) (by (with_reducible repeat (first | refine qe ?_ _ | refine qg ?_ | refine qd ?_ _)); exact ab.out) hb); replace HB := Aside0.mk (qk (by repeat (first | (with_reducible first | exact HB.out | apply qa | apply q8 | apply qb | refine qf ?_ ae.out) | exact HB.out)) hb); (try clear hb); (try clear ey); (try clear hk); (try clear hi)))
         go_ret
         exact ⟨by first | rfl | (simp [qq, qr] <;> rfl) | (simp [*, qq, qr] <;> rfl), by repeat (first | (with_reducible first | exact HB.out | apply qa | apply q8 | apply qb | refine qf ?_ ae.out) | exact HB.out)⟩
       · replace dl := Bool.eq_false_iff.mpr dl
         subst dl
         have H1 : (some 3) = some r := by rw [if_neg (show ¬ (false = true) by decide)] at H; exact H
         clear H;have H := H1;clear H1;obtain rfl := Option.some.inj H
         go_enter Tryd.func15, Tryd.ntmps15
         go_wp2_with (first | ((with_reducible refine qP (N := 1) rfl ?_); refine qM ?hg (N := 1) ?hd (cs := #[.int .i64 aa, .int .i64 ag, .int .i64 ah, .string ai, .slice aj af.length ak]) (t := 37) ?hr ?_; (case hd => rfl); (case hg => rfl); (case hr => first | (go_simp; done) | (go_simp; rfl)); intro ac hg d6 hbox hb; have ab := Aside0.mk (hbox); have b7 := Aside0.mk ((by rw [hg]; exact (qt (by repeat (first | (with_reducible first | exact HB.out | apply qa | apply q8 | apply qb) | exact HB.out))) : w.heap.size ≤ ac)); have ae := Aside0.mk ((by rw [hg]; exact (qt (by repeat (first | (with_reducible first | exact HB.out | apply qa | apply q8 | apply qb) | exact HB.out))) : w.heap.size ≤ ac)); replace HB := Aside0.mk (qk (by repeat (first | (with_reducible first | exact HB.out | apply qa | apply q8 | apply qb) | exact HB.out)) hb); clear hb hbox hg; have bi : d6.cell? ⟨ac, 0, none⟩ = some (.int .i64 aa) := (q9 ab.out 0).trans rfl; have bj : d6.cell? ⟨ac, 1, none⟩ = some (.int .i64 ag) := (q9 ab.out 1).trans rfl; have bk : d6.cell? ⟨ac, 2, none⟩ = some (.int .i64 ah) := (q9 ab.out 2).trans rfl; have bl : d6.cell? ⟨ac, 3, none⟩ = some (.string ai) := (q9 ab.out 3).trans rfl; have bm : d6.cell? ⟨ac, 4, none⟩ = some (.slice aj af.length ak) := (q9 ab.out 4).trans rfl; have bn := qc ab.out 0; have bo := qc ab.out 1; have bp := qc ab.out 2; have bq := qc ab.out 3; have br := qc ab.out 4) | ((with_reducible refine qG (f := 16) rfl ?_); refine zc (some 13) rfl rfl Tryd.func16 (by kernel_rfl) rfl #[.agg #[.int .i64 aa, .int .i64 ag, .int .i64 ah, .string ai, .slice aj af.length ak]] rfl (by (try simp only [List.map_toArray, List.map_cons, List.map_nil]); first | done | rfl | (simp only [List.length_drop, List.length_take]; rfl)) ?_; (with_reducible refine (qW.calls aa ag ah ai _ _ af false _ ?side1 ?side2 A9.out).mono ?_); (case side1 => repeat (first | exact (Kd.C_below eg.out HB.out) | (with_reducible refine Kd.C_alloc ?_ _) | (with_reducible refine Kd.C_drewN ?_ _) | (with_reducible refine Kd.C_drew ?_))); (case side2 => exact eh.out); rintro e e6 ⟨rfl, hb⟩; refine ⟨_, rfl, ?_⟩; replace ab := Aside0.mk (qA (g := ac) (o := .cells #[.int .i64 aa, .int .i64 ag, .int .i64 ah, .string ai, .slice aj af.length ak] 37 (0, 0)) (by (with_reducible repeat (first | refine qe ?_ _ | refine qg ?_ | refine qd ?_ _)); exact ab.out) hb); replace HB := Aside0.mk (qk (by repeat (first | (with_reducible first | exact HB.out | apply qa | apply q8 | apply qb | refine qf ?_ ae.out) | exact HB.out)) hb); (try clear hb); (try clear ey); (try clear hk); (try clear hi)))
         go_ret
         exact ⟨by first | rfl | (simp [qq, qr] <;> rfl) | (simp [*, qq, qr] <;> rfl), by repeat (first | (with_reducible first | exact HB.out | apply qa | apply q8 | apply qb | refine qf ?_ ae.out) | exact HB.out)⟩
     · rw [if_neg c8] at H
       have dy : (aa == 8) = false := beq_eq_false_iff_ne.mpr c8;have dz : (aa != 8) = true := bne_iff_ne.mpr c8;have d9 := Aside0.mk H;clear H
       go_enter Tryd.func15, Tryd.ntmps15
       go_upto_if 14 with (first | ((with_reducible refine qP (N := 1) rfl ?_); refine qM ?hg (N := 1) ?hd (cs := #[.int .i64 aa, .int .i64 ag, .int .i64 ah, .string ai, .slice aj af.length ak]) (t := 37) ?hr ?_; (case hd => rfl); (case hg => rfl); (case hr => first | (go_simp; done) | (go_simp; rfl)); intro ac hg d7 hbox hb; have ab := Aside0.mk (hbox); have b7 := Aside0.mk ((by rw [hg]; exact (qt (by repeat (first | (with_reducible first | exact HB.out | apply qa | apply q8 | apply qb) | exact HB.out))) : w.heap.size ≤ ac)); have ae := Aside0.mk ((by rw [hg]; exact (qt (by repeat (first | (with_reducible first | exact HB.out | apply qa | apply q8 | apply qb) | exact HB.out))) : w.heap.size ≤ ac)); replace HB := Aside0.mk (qk (by repeat (first | (with_reducible first | exact HB.out | apply qa | apply q8 | apply qb) | exact HB.out)) hb); clear hb hbox hg; have bs : d7.cell? ⟨ac, 0, none⟩ = some (.int .i64 aa) := (q9 ab.out 0).trans rfl; have bu : d7.cell? ⟨ac, 1, none⟩ = some (.int .i64 ag) := (q9 ab.out 1).trans rfl; have bv : d7.cell? ⟨ac, 2, none⟩ = some (.int .i64 ah) := (q9 ab.out 2).trans rfl; have bw : d7.cell? ⟨ac, 3, none⟩ = some (.string ai) := (q9 ab.out 3).trans rfl; have bz : d7.cell? ⟨ac, 4, none⟩ = some (.slice aj af.length ak) := (q9 ab.out 4).trans rfl; have b0 := qc ab.out 0; have b1 := qc ab.out 1; have b2 := qc ab.out 2; have b3 := qc ab.out 3; have b4 := qc ab.out 4))
       (try simp only [Act.put, List.setIfInBounds_toArray, List.set_cons_zero, List.set_cons_succ])
       go_cut [14] (fun ez wc => ∃ (kq : Nat) (a3 : Bool), ez = .bool a3 ∧ Aside0 (qp.j0 kq aa a3 = some r) ∧ Aside0 (kq ≤ k) ∧ Aside0 (wc.heap[ac]? = some (.cells #[.int .i64 aa, .int .i64 ag, .int .i64 ah, .string ai, (.slice aj af.length ak)] 37 (0, 0))) ∧ Aside0 (Below w.heap.size w wc))
       case first =>
        have H := d9.out;clear d9
        by_cases ap : aa = 17
        · rw [if_pos ap] at H
          have am : (aa == 17) = true := beq_iff_eq.mpr ap;have b8 : (aa != 17) = false := bne_eq_false_iff_eq.mpr ap;clear ap
          (first | rw [am] | (simp only [qC, qD]; rw [am]) | skip)
          have H' := Aside0.mk H;clear H;go_wp2;go_meet
          case rel => exact ⟨_, ((aa == 17)), (by first | rfl | (simp; done) | (simp [*]; done)), H', ⟨by first | omega | exact Nat.le_refl _⟩, ⟨by (with_reducible repeat (first | refine qe ?_ _ | refine qg ?_ | refine qd ?_ _)); exact ab.out⟩, ⟨by repeat (first | (with_reducible first | exact HB.out | apply qa | apply q8 | apply qb | refine qf ?_ ae.out) | exact HB.out)⟩⟩
        · rw [if_neg ap] at H
          have am : (aa == 17) = false := beq_eq_false_iff_ne.mpr ap;have b8 : (aa != 17) = true := bne_iff_ne.mpr ap
          (first | rw [am] | (simp only [qC, qD]; rw [am]) | skip)
          by_cases au : aa = 18
          · rw [if_pos au] at H
            have b9 : (aa == 18) = true := beq_iff_eq.mpr au;have ca : (aa != 18) = false := bne_eq_false_iff_eq.mpr au;clear au;have H' := Aside0.mk H;clear H;go_wp2;go_meet
            case rel => exact ⟨_, ((aa == 18)), (by first | rfl | (simp; done) | (simp [*]; done)), H', ⟨by first | omega | exact Nat.le_refl _⟩, ⟨by (with_reducible repeat (first | refine qe ?_ _ | refine qg ?_ | refine qd ?_ _)); exact ab.out⟩, ⟨by repeat (first | (with_reducible first | exact HB.out | apply qa | apply q8 | apply qb | refine qf ?_ ae.out) | exact HB.out)⟩⟩
          · rw [if_neg au] at H
            have b9 : (aa == 18) = false := beq_eq_false_iff_ne.mpr au;have ca : (aa != 18) = true := bne_iff_ne.mpr au
            by_cases av : aa = 19
            · rw [if_pos av] at H
              have cb : (aa == 19) = true := beq_iff_eq.mpr av;have cc : (aa != 19) = false := bne_eq_false_iff_eq.mpr av;clear av;have H' := Aside0.mk H;clear H;go_wp2;go_meet
              case rel => exact ⟨_, ((aa == 19)), (by first | rfl | (simp; done) | (simp [*]; done)), H', ⟨by first | omega | exact Nat.le_refl _⟩, ⟨by (with_reducible repeat (first | refine qe ?_ _ | refine qg ?_ | refine qd ?_ _)); exact ab.out⟩, ⟨by repeat (first | (with_reducible first | exact HB.out | apply qa | apply q8 | apply qb | refine qf ?_ ae.out) | exact HB.out)⟩⟩
            · rw [if_neg av] at H
              have cb : (aa == 19) = false := beq_eq_false_iff_ne.mpr av;have cc : (aa != 19) = true := bne_iff_ne.mpr av
              by_cases aw : aa = 20
              · rw [if_pos aw] at H
                have cd : (aa == 20) = true := beq_iff_eq.mpr aw;have ce : (aa != 20) = false := bne_eq_false_iff_eq.mpr aw;clear aw;have H' := Aside0.mk H;clear H;go_wp2;go_meet
                case rel => exact ⟨_, ((aa == 20)), (by first | rfl | (simp; done) | (simp [*]; done)), H', ⟨by first | omega | exact Nat.le_refl _⟩, ⟨by (with_reducible repeat (first | refine qe ?_ _ | refine qg ?_ | refine qd ?_ _)); exact ab.out⟩, ⟨by repeat (first | (with_reducible first | exact HB.out | apply qa | apply q8 | apply qb | refine qf ?_ ae.out) | exact HB.out)⟩⟩
              · rw [if_neg aw] at H
                have cd : (aa == 20) = false := beq_eq_false_iff_ne.mpr aw;have ce : (aa != 20) = true := bne_iff_ne.mpr aw
                by_cases ax : aa = 21
                · rw [if_pos ax] at H
                  have cf : (aa == 21) = true := beq_iff_eq.mpr ax;have cg : (aa != 21) = false := bne_eq_false_iff_eq.mpr ax;clear ax;have H' := Aside0.mk H;clear H;go_wp2;go_meet
                  case rel => exact ⟨_, ((aa == 21)), (by first | rfl | (simp; done) | (simp [*]; done)), H', ⟨by first | omega | exact Nat.le_refl _⟩, ⟨by (with_reducible repeat (first | refine qe ?_ _ | refine qg ?_ | refine qd ?_ _)); exact ab.out⟩, ⟨by repeat (first | (with_reducible first | exact HB.out | apply qa | apply q8 | apply qb | refine qf ?_ ae.out) | exact HB.out)⟩⟩
                · rw [if_neg ax] at H
                  have cf : (aa == 21) = false := beq_eq_false_iff_ne.mpr ax;have cg : (aa != 21) = true := bne_iff_ne.mpr ax
                  by_cases ay : aa = 22
                  · rw [if_pos ay] at H
                    have ch : (aa == 22) = true := beq_iff_eq.mpr ay;have ci : (aa != 22) = false := bne_eq_false_iff_eq.mpr ay;clear ay;have H' := Aside0.mk H;clear H;go_wp2;go_meet
                    case rel => exact ⟨_, ((aa == 22)), (by first | rfl | (simp; done) | (simp [*]; done)), H', ⟨by first | omega | exact Nat.le_refl _⟩, ⟨by (with_reducible repeat (first | refine qe ?_ _ | refine qg ?_ | refine qd ?_ _)); exact ab.out⟩, ⟨by repeat (first | (with_reducible first | exact HB.out | apply qa | apply q8 | apply qb | refine qf ?_ ae.out) | exact HB.out)⟩⟩
                  · rw [if_neg ay] at H
                    have ch : (aa == 22) = false := beq_eq_false_iff_ne.mpr ay;have ci : (aa != 22) = true := bne_iff_ne.mpr ay
                    by_cases az : aa = 9
                    · rw [if_pos az] at H
                      have cj : (aa == 9) = true := beq_iff_eq.mpr az;have ck : (aa != 9) = false := bne_eq_false_iff_eq.mpr az;clear az;have H' := Aside0.mk H;clear H;go_wp2;go_meet
                      case rel => exact ⟨_, ((aa == 9)), (by first | rfl | (simp; done) | (simp [*]; done)), H', ⟨by first | omega | exact Nat.le_refl _⟩, ⟨by (with_reducible repeat (first | refine qe ?_ _ | refine qg ?_ | refine qd ?_ _)); exact ab.out⟩, ⟨by repeat (first | (with_reducible first | exact HB.out | apply qa | apply q8 | apply qb | refine qf ?_ ae.out) | exact HB.out)⟩⟩
                    · rw [if_neg az] at H
                      have cj : (aa == 9) = false := beq_eq_false_iff_ne.mpr az;have ck : (aa != 9) = true := bne_iff_ne.mpr az
                      by_cases a0 : aa = 10
                      · rw [if_pos a0] at H
                        have cm : (aa == 10) = true := beq_iff_eq.mpr a0;have cn : (aa != 10) = false := bne_eq_false_iff_eq.mpr a0;clear a0;have H' := Aside0.mk H;clear H;go_wp2;go_meet
                        case rel => exact ⟨_, ((aa == 10)), (by first | rfl | (simp; done) | (simp [*]; done)), H', ⟨by first | omega | exact Nat.le_refl _⟩, ⟨by (with_reducible repeat (first | refine qe ?_ _ | refine qg ?_ | refine qd ?_ _)); exact ab.out⟩, ⟨by repeat (first | (with_reducible first | exact HB.out | apply qa | apply q8 | apply qb | refine qf ?_ ae.out) | exact HB.out)⟩⟩
                      · rw [if_neg a0] at H
                        have cm : (aa == 10) = false := beq_eq_false_iff_ne.mpr a0;have cn : (aa != 10) = true := bne_iff_ne.mpr a0
                        by_cases a1 : aa = 26
                        · rw [if_pos a1] at H
                          have co : (aa == 26) = true := beq_iff_eq.mpr a1;have cp : (aa != 26) = false := bne_eq_false_iff_eq.mpr a1;clear a1;have H' := Aside0.mk H;clear H;go_wp2;go_meet
                          case rel => exact ⟨_, ((aa == 26)), (by first | rfl | (simp; done) | (simp [*]; done)), H', ⟨by first | omega | exact Nat.le_refl _⟩, ⟨by (with_reducible repeat (first | refine qe ?_ _ | refine qg ?_ | refine qd ?_ _)); exact ab.out⟩, ⟨by repeat (first | (with_reducible first | exact HB.out | apply qa | apply q8 | apply qb | refine qf ?_ ae.out) | exact HB.out)⟩⟩
                        · rw [if_neg a1] at H
                          have co : (aa == 26) = false := beq_eq_false_iff_ne.mpr a1;have cp : (aa != 26) = true := bne_iff_ne.mpr a1
                          by_cases a2 : aa = 27
                          · rw [if_pos a2] at H
                            have cq : (aa == 27) = true := beq_iff_eq.mpr a2;have cr : (aa != 27) = false := bne_eq_false_iff_eq.mpr a2;clear a2;have H' := Aside0.mk H;clear H;go_wp2;go_meet
                            case rel => exact ⟨_, ((aa == 27)), (by first | rfl | (simp; done) | (simp [*]; done)), H', ⟨by first | omega | exact Nat.le_refl _⟩, ⟨by (with_reducible repeat (first | refine qe ?_ _ | refine qg ?_ | refine qd ?_ _)); exact ab.out⟩, ⟨by repeat (first | (with_reducible first | exact HB.out | apply qa | apply q8 | apply qb | refine qf ?_ ae.out) | exact HB.out)⟩⟩
                          · rw [if_neg a2] at H
                            have cq : (aa == 27) = false := beq_eq_false_iff_ne.mpr a2;have cr : (aa != 27) = true := bne_iff_ne.mpr a2;have H' := Aside0.mk H;clear H;go_wp2;go_meet
                            case rel => exact ⟨_, ((aa == 25)), (by first | rfl | (simp; done) | (simp [*]; done)), H', ⟨by first | omega | exact Nat.le_refl _⟩, ⟨by (with_reducible repeat (first | refine qe ?_ _ | refine qg ?_ | refine qd ?_ _)); exact ab.out⟩, ⟨by repeat (first | (with_reducible first | exact HB.out | apply qa | apply q8 | apply qb | refine qf ?_ ae.out) | exact HB.out)⟩⟩
       case rest =>
        clear d9
        (try clear c1); (try clear c2); (try clear du); (try clear dv); (try clear p2); (try clear c5); (try clear dw); (try clear dx); (try clear c8); (try clear dy); (try clear dz); (try clear dl); (try clear eu); (try clear ev); (try clear ap); (try clear am); (try clear b8); (try clear au); (try clear b9); (try clear ca); (try clear av); (try clear cb); (try clear cc); (try clear aw); (try clear cd); (try clear ce); (try clear ax); (try clear cf); (try clear cg); (try clear ay); (try clear ch); (try clear ci); (try clear az); (try clear cj); (try clear ck); (try clear a0); (try clear cm); (try clear cn); (try clear a1); (try clear co); (try clear cp); (try clear a2); (try clear cq); (try clear cr); (try clear a7); (try clear a8); (try clear a9); (try clear ba); (try clear bb); (try clear bi); (try clear bj); (try clear bk); (try clear bl); (try clear bm); (try clear bs); (try clear bu); (try clear bv); (try clear bw); (try clear bz); (try clear ct); (try clear cu); (try clear cv); (try clear cw); (try clear cx); (try clear da); (try clear db); (try clear dc); (try clear dd); (try clear de); (try clear bc); (try clear bd); (try clear bf); (try clear bg); (try clear bh); (try clear bn); (try clear bo); (try clear bp); (try clear bq); (try clear br); (try clear b0); (try clear b1); (try clear b2); (try clear b3); (try clear b4); (try clear cy); (try clear cz); (try clear c6); (try clear c7); (try clear c9); (try clear df); (try clear dh); (try clear di); (try clear dj); (try clear dk)
        obtain ⟨kq, a3, rfl, HA, dm, ab, HB⟩ := hcut
        cases kq with
        | zero => exact absurd HA.out (by simp [qp.j0])
        | succ ea =>
         have H := HA.out;clear HA;simp only [qp.j0] at H
         by_cases c30 : a3 = true
         · subst c30
           have H1 : (some 4) = some r := by rw [if_pos rfl] at H; exact H
           clear H;have H := H1;clear H1;obtain rfl := Option.some.inj H;go_wp2
           go_ret
           exact ⟨by first | rfl | (simp [qq, qr] <;> rfl) | (simp [*, qq, qr] <;> rfl), by repeat (first | (with_reducible first | exact HB.out | apply qa | apply q8 | apply qb | refine qf ?_ ae.out) | exact HB.out)⟩
         · replace c30 := Bool.eq_false_iff.mpr c30
           subst c30
           have H1 : (if aa = 16 then (some 5) else (if aa = 11 then (qp.j1 ea aa (aa == 11)) else (qp.j1 ea aa (aa == 12)))) = some r := by rw [if_neg (show ¬ (false = true) by decide)] at H; exact H
           clear H;have H := H1;clear H1
           by_cases c31 : aa = 16
           · rw [if_pos c31] at H
             have d0 : (aa == 16) = true := beq_iff_eq.mpr c31;have d1 : (aa != 16) = false := bne_eq_false_iff_eq.mpr c31;clear c31;obtain rfl := Option.some.inj H;go_wp2
             go_ret
             exact ⟨by first | rfl | (simp [qq, qr] <;> rfl) | (simp [*, qq, qr] <;> rfl), by repeat (first | (with_reducible first | exact HB.out | apply qa | apply q8 | apply qb | refine qf ?_ ae.out) | exact HB.out)⟩
           · rw [if_neg c31] at H
             have d0 : (aa == 16) = false := beq_eq_false_iff_ne.mpr c31;have d1 : (aa != 16) = true := bne_iff_ne.mpr c31;have eb := Aside0.mk H;clear H
             go_upto_if 28 with (fail)
             go_cut [28] (fun e0 wc => ∃ (kq : Nat) (a4 : Bool), e0 = .bool a4 ∧ Aside0 (qp.j1 kq aa a4 = some r) ∧ Aside0 (kq ≤ ea) ∧ Aside0 (wc.heap[ac]? = some (.cells #[.int .i64 aa, .int .i64 ag, .int .i64 ah, .string ai, (.slice aj af.length ak)] 37 (0, 0))) ∧ Aside0 (Below w.heap.size w wc))
             case first =>
              have H := eb.out;clear eb
              by_cases a5 : aa = 11
              · rw [if_pos a5] at H
                have an : (aa == 11) = true := beq_iff_eq.mpr a5;have d3 : (aa != 11) = false := bne_eq_false_iff_eq.mpr a5;clear a5
                (first | rw [an] | (simp only [qC, qD]; rw [an]) | skip)
                have H' := Aside0.mk H;clear H;go_wp2;go_meet
                case rel => exact ⟨_, ((aa == 11)), (by first | rfl | (simp; done) | (simp [*]; done)), H', ⟨by have := dm.out; first | omega | exact Nat.le_refl _⟩, ⟨by (with_reducible repeat (first | refine qe ?_ _ | refine qg ?_ | refine qd ?_ _)); exact ab.out⟩, ⟨by repeat (first | (with_reducible first | exact HB.out | apply qa | apply q8 | apply qb | refine qf ?_ ae.out) | exact HB.out)⟩⟩
              · rw [if_neg a5] at H
                have an : (aa == 11) = false := beq_eq_false_iff_ne.mpr a5;have d3 : (aa != 11) = true := bne_iff_ne.mpr a5
                (first | rw [an] | (simp only [qC, qD]; rw [an]) | skip)
                have H' := Aside0.mk H;clear H;go_wp2;go_meet
                case rel => exact ⟨_, ((aa == 12)), (by first | rfl | (simp; done) | (simp [*]; done)), H', ⟨by have := dm.out; first | omega | exact Nat.le_refl _⟩, ⟨by (with_reducible repeat (first | refine qe ?_ _ | refine qg ?_ | refine qd ?_ _)); exact ab.out⟩, ⟨by repeat (first | (with_reducible first | exact HB.out | apply qa | apply q8 | apply qb | refine qf ?_ ae.out) | exact HB.out)⟩⟩
             case rest =>
              clear eb
              (try clear c1); (try clear c2); (try clear du); (try clear dv); (try clear p2); (try clear c3); (try clear c5); (try clear dw); (try clear dx); (try clear c8); (try clear dy); (try clear dz); (try clear dl); (try clear eu); (try clear ev); (try clear ap); (try clear am); (try clear b8); (try clear au); (try clear b9); (try clear ca); (try clear av); (try clear cb); (try clear cc); (try clear aw); (try clear cd); (try clear ce); (try clear ax); (try clear cf); (try clear cg); (try clear ay); (try clear ch); (try clear ci); (try clear az); (try clear cj); (try clear ck); (try clear a0); (try clear cm); (try clear cn); (try clear a1); (try clear co); (try clear cp); (try clear a2); (try clear cq); (try clear cr); (try clear c30); (try clear c31); (try clear d0); (try clear d1); (try clear a5); (try clear an); (try clear d3); (try clear a7); (try clear a8); (try clear a9); (try clear ba); (try clear bb); (try clear bi); (try clear bj); (try clear bk); (try clear bl); (try clear bm); (try clear bs); (try clear bu); (try clear bv); (try clear bw); (try clear bz); (try clear ct); (try clear cu); (try clear cv); (try clear cw); (try clear cx); (try clear da); (try clear db); (try clear dc); (try clear dd); (try clear de); (try clear bc); (try clear bd); (try clear bf); (try clear bg); (try clear bh); (try clear bn); (try clear bo); (try clear bp); (try clear bq); (try clear br); (try clear b0); (try clear b1); (try clear b2); (try clear b3); (try clear b4); (try clear cy); (try clear cz); (try clear c6); (try clear c7); (try clear c9); (try clear df); (try clear dh); (try clear di); (try clear dj); (try clear dk); (try clear p2)
              obtain ⟨kq, a4, rfl, HA, ec, ab, HB⟩ := hcut
              cases kq with
              | zero => exact absurd HA.out (by simp [qp.j1])
              | succ d4 =>
               have H := HA.out;clear HA;simp only [qp.j1] at H
               by_cases d8 : a4 = true
               · subst d8
                 have H1 : (some 6) = some r := by rw [if_pos rfl] at H; exact H
                 clear H;have H := H1;clear H1;obtain rfl := Option.some.inj H;go_wp2
                 go_ret
                 exact ⟨by first | rfl | (simp [qq, qr] <;> rfl) | (simp [*, qq, qr] <;> rfl), by repeat (first | (with_reducible first | exact HB.out | apply qa | apply q8 | apply qb | refine qf ?_ ae.out) | exact HB.out)⟩
               · replace d8 := Bool.eq_false_iff.mpr d8
                 subst d8
                 have H1 : (if aa = 13 then (qp.j2 d4 aa (aa == 13)) else (if aa = 14 then (qp.j2 d4 aa (aa == 14)) else (qp.j2 d4 aa (aa == 15)))) = some r := by rw [if_neg (show ¬ (false = true) by decide)] at H; exact H
                 clear H;have H := H1;clear H1;have ed := Aside0.mk H;clear H
                 go_upto_if 31 with (fail)
                 go_cut [31] (fun e1 wc => ∃ (kq : Nat) (a6 : Bool), e1 = .bool a6 ∧ Aside0 (qp.j2 kq aa a6 = some r) ∧ Aside0 (kq ≤ d4) ∧ Aside0 (wc.heap[ac]? = some (.cells #[.int .i64 aa, .int .i64 ag, .int .i64 ah, .string ai, (.slice aj af.length ak)] 37 (0, 0))) ∧ Aside0 (Below w.heap.size w wc))
                 case first =>
                  have H := ed.out;clear ed
                  by_cases b5 : aa = 13
                  · rw [if_pos b5] at H
                    have ao : (aa == 13) = true := beq_iff_eq.mpr b5;have ei : (aa != 13) = false := bne_eq_false_iff_eq.mpr b5;clear b5
                    (first | rw [ao] | (simp only [qC, qD]; rw [ao]) | skip)
                    have H' := Aside0.mk H;clear H;go_wp2;go_meet
                    case rel => exact ⟨_, ((aa == 13)), (by first | rfl | (simp; done) | (simp [*]; done)), H', ⟨by have := dm.out; have := ec.out; first | omega | exact Nat.le_refl _⟩, ⟨by (with_reducible repeat (first | refine qe ?_ _ | refine qg ?_ | refine qd ?_ _)); exact ab.out⟩, ⟨by repeat (first | (with_reducible first | exact HB.out | apply qa | apply q8 | apply qb | refine qf ?_ ae.out) | exact HB.out)⟩⟩
                  · rw [if_neg b5] at H
                    have ao : (aa == 13) = false := beq_eq_false_iff_ne.mpr b5;have ei : (aa != 13) = true := bne_iff_ne.mpr b5
                    (first | rw [ao] | (simp only [qC, qD]; rw [ao]) | skip)
                    by_cases b6 : aa = 14
                    · rw [if_pos b6] at H
                      have ej : (aa == 14) = true := beq_iff_eq.mpr b6;have ek : (aa != 14) = false := bne_eq_false_iff_eq.mpr b6;clear b6;have H' := Aside0.mk H;clear H;go_wp2;go_meet
                      case rel => exact ⟨_, ((aa == 14)), (by first | rfl | (simp; done) | (simp [*]; done)), H', ⟨by have := dm.out; have := ec.out; first | omega | exact Nat.le_refl _⟩, ⟨by (with_reducible repeat (first | refine qe ?_ _ | refine qg ?_ | refine qd ?_ _)); exact ab.out⟩, ⟨by repeat (first | (with_reducible first | exact HB.out | apply qa | apply q8 | apply qb | refine qf ?_ ae.out) | exact HB.out)⟩⟩
                    · rw [if_neg b6] at H
                      have ej : (aa == 14) = false := beq_eq_false_iff_ne.mpr b6;have ek : (aa != 14) = true := bne_iff_ne.mpr b6;have H' := Aside0.mk H;clear H;go_wp2;go_meet
                      case rel => exact ⟨_, ((aa == 15)), (by first | rfl | (simp; done) | (simp [*]; done)), H', ⟨by have := dm.out; have := ec.out; first | omega | exact Nat.le_refl _⟩, ⟨by (with_reducible repeat (first | refine qe ?_ _ | refine qg ?_ | refine qd ?_ _)); exact ab.out⟩, ⟨by repeat (first | (with_reducible first | exact HB.out | apply qa | apply q8 | apply qb | refine qf ?_ ae.out) | exact HB.out)⟩⟩
                 case rest =>
                  clear ed
                  (try clear c1); (try clear c2); (try clear du); (try clear dv); (try clear p2); (try clear c3); (try clear c5); (try clear dw); (try clear dx); (try clear c8); (try clear dy); (try clear dz); (try clear dl); (try clear eu); (try clear ev); (try clear ap); (try clear am); (try clear b8); (try clear au); (try clear b9); (try clear ca); (try clear av); (try clear cb); (try clear cc); (try clear aw); (try clear cd); (try clear ce); (try clear ax); (try clear cf); (try clear cg); (try clear ay); (try clear ch); (try clear ci); (try clear az); (try clear cj); (try clear ck); (try clear a0); (try clear cm); (try clear cn); (try clear a1); (try clear co); (try clear cp); (try clear a2); (try clear cq); (try clear cr); (try clear c30); (try clear c31); (try clear d0); (try clear d1); (try clear a5); (try clear an); (try clear d3); (try clear d8); (try clear b5); (try clear ao); (try clear ei); (try clear b6); (try clear ej); (try clear ek); (try clear a7); (try clear a8); (try clear a9); (try clear ba); (try clear bb); (try clear bi); (try clear bj); (try clear bk); (try clear bl); (try clear bm); (try clear bs); (try clear bu); (try clear bv); (try clear bw); (try clear bz); (try clear ct); (try clear cu); (try clear cv); (try clear cw); (try clear cx); (try clear da); (try clear db); (try clear dc); (try clear dd); (try clear de); (try clear bc); (try clear bd); (try clear bf); (try clear bg); (try clear bh); (try clear bn); (try clear bo); (try clear bp); (try clear bq); (try clear br); (try clear b0); (try clear b1); (try clear b2); (try clear b3); (try clear b4); (try clear cy); (try clear cz); (try clear c6); (try clear c7); (try clear c9); (try clear df); (try clear dh); (try clear di); (try clear dj); (try clear dk); (try clear p2)
                  obtain ⟨kq, a6, rfl, HA, e3, ab, HB⟩ := hcut
                  cases kq with
                  | zero => exact absurd HA.out (by simp [qp.j2])
                  | succ e4 =>
                   have H := HA.out;clear HA;simp only [qp.j2] at H
                   by_cases em : a6 = true
                   · subst em
                     have H1 : (some 7) = some r := by rw [if_pos rfl] at H; exact H
                     clear H;have H := H1;clear H1;obtain rfl := Option.some.inj H;go_wp2
                     go_ret
                     exact ⟨by first | rfl | (simp [qq, qr] <;> rfl) | (simp [*, qq, qr] <;> rfl), by repeat (first | (with_reducible first | exact HB.out | apply qa | apply q8 | apply qb | refine qf ?_ ae.out) | exact HB.out)⟩
                   · replace em := Bool.eq_false_iff.mpr em
                     subst em
                     have H1 : (if aa = 7 then (some 8) else (some 9)) = some r := by rw [if_neg (show ¬ (false = true) by decide)] at H; exact H
                     clear H;have H := H1;clear H1
                     by_cases dn : aa = 7
                     · rw [if_pos dn] at H
                       have ep : (aa == 7) = true := beq_iff_eq.mpr dn;have er : (aa != 7) = false := bne_eq_false_iff_eq.mpr dn;clear dn;obtain rfl := Option.some.inj H;go_wp2
                       go_ret
                       exact ⟨by first | rfl | (simp [qq, qr] <;> rfl) | (simp [*, qq, qr] <;> rfl), by repeat (first | (with_reducible first | exact HB.out | apply qa | apply q8 | apply qb | refine qf ?_ ae.out) | exact HB.out)⟩
                     · rw [if_neg dn] at H
                       have ep : (aa == 7) = false := beq_eq_false_iff_ne.mpr dn;have er : (aa != 7) = true := bne_iff_ne.mpr dn;obtain rfl := Option.some.inj H;go_wp2
                       go_ret
                       exact ⟨by first | rfl | (simp [qq, qr] <;> rfl) | (simp [*, qq, qr] <;> rfl), by repeat (first | (with_reducible first | exact HB.out | apply qa | apply q8 | apply qb | refine qf ?_ ae.out) | exact HB.out)⟩
end Go.Proofs.YtfmgbgkcmmpcfaaDoor.PTx

