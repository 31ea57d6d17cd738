import Derived.Test.YtggbhdcgfnjogaaGreatDoorKPPcx0
import Derived.Test.YtggbhdcgfnjogaaGreatDoorKPPcx9
namespace Go.Proofs.YtggbhdcgfnjogaaGreatDoor.PPc
open Go.RowKit Go.Proofs.YtggbhdcgfnjogaaGreatDoorW.PrintWords Go.Proofs.YtggbhdcgfnjogaaGreatDoorW.PrintLast Go.Proofs.YtggbhdcgfnjogaaGreatDoorW.PrintMore
set_option linter.unusedVariables false
set_option linter.unusedSimpArgs false
def qI.l0 : Nat → ByteArray → List (S42) → Int → Option ((List (S42)) × Int)
 | 0, _, _, _ => none
 | k + 1, x0, x4, x5 => if x5 < (x0.size : Int) then (if (x4.length : Int) = 16 then (some (([] : List (S42)), 18)) else ((qz.f k x0 x5).bind fun bt175 => (if bt175.2.2.2.2 = 0 then (if x4.length < 4398046511104 then (qI.l0 k x0 (x4 ++ [(⟨bt175.1, bt175.2.1, bt175.2.2.1⟩ : S42)]) bt175.2.2.2.1) else (none)) else (some (([] : List (S42)), bt175.2.2.2.2))))) else (some (x4, 0))
def qI.f (k : Nat) (a0 : ByteArray) : Option ((List (S42)) × Int) := qI.l0 k a0 ([] : List (S42)) 0
set_option maxHeartbeats 8000000 in
set_option maxRecDepth 100000 in
theorem qI.calls (k : Nat) (a0 : ByteArray) (r1 : List (S42)) (r2 : Int) (w : World) (h : qI.f k a0 = some (r1, r2)) :
 Calls Tryz.prog 15 #[.string a0] w fun e w' => ∃ v0_ : Value, e = .returned (.tuple #[v0_, .int .i64 r2]) ∧ Kd.R k42 42 w' w.heap.size (fun _ => True) v0_ r1 ∧ Below w.heap.size w w' := by
 have hu42 := Tryz.underlying42;have HB := Aside0.mk (Below.refl w.heap.size w);have H : (qI.l0 k a0 ([] : List (S42)) 0) = some (r1, r2) := h;clear h;have H' := Aside0.mk H;clear H
 go_enter Tryz.func15, Tryz.ntmps15
 go_wp2
 go_loopg [4, 5] k (fun kq v4 v5 w' => ∃ (x4_1 : List (S42)) (x5_1 : Int), v5 = .int .i64 x5_1 ∧ Aside0 (qI.l0 kq a0 x4_1 x5_1 = some (r1, r2)) ∧ Aside0 (kq ≤ k) ∧ Aside0 (Kd.R k42 42 w' w.heap.size (fun _ => True) v4 x4_1) ∧ Aside0 (Below w.heap.size w w'))
 case atStart => exact ⟨(([] : List (S42))), (0), (by first | rfl | (simp; done) | (simp [*]; done)), H', ⟨Nat.le_refl _⟩, ⟨by first | exact Kd.R_nil _ _ _ _ _ | exact Kd.N_nil _ _ _ _ _ | exact Kd.V_nil _ _ _ _ _ | exact Kd.Q_nil _ _ _ _ _ | exact Kd.S_nil _ _ _ _ _⟩, ⟨by repeat (first | (with_reducible first | exact HB.out | apply qa | apply q8 | apply qd) | exact HB.out)⟩⟩
 case round =>
  clear H'
  (try clear c1)
  obtain ⟨x4_1, x5_1, rfl, HA, HK1, HO_4, HB⟩ := hrel
  cases gk with
  | zero => exact absurd HA.out (by simp [qI.l0])
  | succ k1 =>
   have H := HA.out;clear HA;simp only [qI.l0] at H
   by_cases c2 : x5_1 < (a0.size : Int)
   · rw [if_pos c2] at H
     have c2b0 : decide (x5_1 < (a0.size : Int)) = true := decide_eq_true c2;clear c2
     by_cases c3 : (x4_1.length : Int) = 16
     · rw [if_pos c3] at H
       have c3b0 : ((x4_1.length : Int) == 16) = true := beq_iff_eq.mpr c3;have c3b1 : ((x4_1.length : Int) != 16) = false := bne_eq_false_iff_eq.mpr c3;clear c3;simp only [Option.some.injEq, Prod.mk.injEq] at H;obtain ⟨rfl, rfl⟩ := H;obtain ⟨Ao4, co4, eo4⟩ := Kd.R_slice HO_4.out;subst eo4;go_wp2
       go_ret2
       exact ⟨_, by first | rfl | (simp [qm, qn] <;> rfl) | (simp [*, qm, qn] <;> rfl), by first | exact Kd.R_nil _ _ _ _ _ | exact Kd.N_nil _ _ _ _ _ | exact Kd.V_nil _ _ _ _ _ | exact Kd.Q_nil _ _ _ _ _ | exact Kd.S_nil _ _ _ _ _, by repeat (first | (with_reducible first | exact HB.out | apply qa | apply q8 | apply qd) | exact HB.out)⟩
     · rw [if_neg c3] at H
       have c3b0 : ((x4_1.length : Int) == 16) = false := beq_eq_false_iff_ne.mpr c3;have c3b1 : ((x4_1.length : Int) != 16) = true := bne_iff_ne.mpr c3;replace H := Option.bind_eq_some_iff.mp H;obtain ⟨⟨t175, t176, t177, t178, t179⟩, A50, H⟩ := H;replace H : (if t179 = 0 then (if x4_1.length < 4398046511104 then (qI.l0 k1 a0 (x4_1 ++ [(⟨t175, t176, t177⟩ : S42)]) t178) else (none)) else (some (([] : List (S42)), t179))) = some (r1, r2) := H;have A5 := Aside0.mk A50;clear A50
       by_cases c6 : t179 = 0
       · rw [if_pos c6] at H
         have c6b0 : (t179 == 0) = true := beq_iff_eq.mpr c6;have c6b1 : (t179 != 0) = false := bne_eq_false_iff_eq.mpr c6;clear c6
         by_cases c7 : x4_1.length < 4398046511104
         · rw [if_pos c7] at H
           have LMc7 := Aside0.mk c7;clear c7;obtain ⟨y181, hy181⟩ : ∃ y_ : List (S42), y_ = (x4_1 ++ [(⟨t175, t176, t177⟩ : S42)]) := ⟨_, rfl⟩
           replace H : (qI.l0 k1 a0 y181 t178) = some (r1, r2) := by first | (rw [hy181]; with_reducible exact H) | (have H2_ := (Option.bind_some _ _).symm.trans H; rw [hy181]; with_reducible exact H2_) | (have H2_ := (Option.bind_some _ _).symm.trans H; with_reducible exact H2_) | with_reducible exact H | (rw [hy181]; exact H) | exact H
           have Ny181 := Aside0.mk hy181;clear hy181;have H' := Aside0.mk H;clear H;obtain ⟨Ao8, co8, eo8⟩ := Kd.R_slice HO_4.out;subst eo8
           go_wp2_with (first | ((with_reducible refine qC (f := 28) rfl ?_); refine z6 (some 19) rfl rfl Tryz.func28 (by kernel_rfl) rfl #[.string a0, .int .i64 x5_1] rfl (by (try simp only [List.map_toArray, List.map_cons, List.map_nil]); first | done | rfl | (simp only [List.length_drop, List.length_take]; rfl)) ?_; (with_reducible refine (qz.calls k1 a0 x5_1 t175 t176 t177 t178 t179 _ A5.out).mono ?_); rintro e w9 ⟨rfl, hb⟩; refine ⟨_, rfl, ?_⟩; replace HO_4 := Aside0.mk (Kd.R_below (by (with_reducible repeat (first | apply Kd.R_alloc | apply Kd.R_drewN | apply Kd.R_drew)); exact HO_4.out) hb); replace HB := Aside0.mk (qt (by repeat (first | (with_reducible first | exact HB.out | apply qa | apply q8 | apply qd) | exact HB.out)) hb); (try clear hb); (try clear hb2); (try clear hk); (try clear hi)) | ((with_reducible refine qG (N := 6) rfl ?_); refine qF ?hg (N := 6) ?hd (cs := #[.int .i64 0, .int .i64 0, .string (⟨#[]⟩ : ByteArray)]) (t := 42) ?hr ?_; (case hd => rfl); (case hg => rfl); (case hr => first | (go_simp; done) | (go_simp; rfl)); intro gb180 hg w10 hbox hb; replace HO_4 := Aside0.mk (Kd.R_below (Kd.R_elderB (by (with_reducible repeat (first | apply Kd.R_alloc | apply Kd.R_drewN | apply Kd.R_drew)); exact HO_4.out) gb180 (Nat.le_of_eq hg.symm)) hb); have BK180 := Aside0.mk (hbox); have GW180 := Aside0.mk ((by rw [hg]; exact (qj (by repeat (first | (with_reducible first | exact HB.out | apply qa | apply q8 | apply qd) | exact HB.out))) : w.heap.size ≤ gb180)); have GE180 := Aside0.mk ((by rw [hg]; exact (qj (by repeat (first | (with_reducible first | exact HB.out | apply qa | apply q8 | apply qd) | exact HB.out))) : w.heap.size ≤ gb180)); replace HB := Aside0.mk (qt (by repeat (first | (with_reducible first | exact HB.out | apply qa | apply q8 | apply qd) | exact HB.out)) hb); clear hb hbox hg; have hcz11_0 : w10.cell? ⟨gb180, 0, none⟩ = some (.int .i64 0) := (qe BK180.out 0).trans rfl; have hcz11_1 : w10.cell? ⟨gb180, 1, none⟩ = some (.int .i64 0) := (qe BK180.out 1).trans rfl; have hcz11_2 : w10.cell? ⟨gb180, 2, none⟩ = some (.string (⟨#[]⟩ : ByteArray)) := (qe BK180.out 2).trans rfl; have hfz11_0 := q9 BK180.out 0; have hfz11_1 := q9 BK180.out 1; have hfz11_2 := q9 BK180.out 2) | ((with_reducible refine qQ (b := .append) (xs := #[.tmp 26, .tmp 28]) rfl ?_); at_builtin; refine Kd.R_append k42 (w0 := w) w.heap.size rfl (.tmp 26) (.tmp 28) 36 42 (.agg #[(.int .i64 0), (.int .i64 0), (.string ⟨#[]⟩)]) 32 rfl Tryz.underlying36 info42 rfl (by decide) (by omega) (.slice Ao8 x4_1.length co8) x4_1 (⟨t175, t176, t177⟩ : S42) [.int .i64 t175, .int .i64 t176, .string t177] (fun k_ => k_ ≠ gb180) (fun _ => False) rfl (by first | (go_simp; done) | (go_simp; rfl)) ?aP (fun _ hk => hk.elim) ?aF ?aO ?aB ?aS ?aL ?_; (case aP => exact k42_mkM _ _ _ (⟨t175, t176, t177⟩ : S42)); (case aB => exact (by repeat (first | (with_reducible first | exact HB.out | apply qa | apply q8 | apply qd | refine qf ?_ GE180.out) | exact HB.out))); (case aF => exact (fun k_ hk => Kd.freshB (g := gb180) (o := .cells #[.int .i64 t175, .int .i64 t176, .string t177] 42 (0, 0)) (by (with_reducible repeat (first | refine qc ?_ _ | refine qg ?_ | refine qb ?_ _)); refine qu (cs := #[.int .i64 t175, .int .i64 t176, .string (⟨#[]⟩ : ByteArray)]) ?_ 2 _ rfl; (with_reducible repeat (first | refine qc ?_ _ | refine qg ?_ | refine qb ?_ _)); refine qu (cs := #[.int .i64 t175, .int .i64 0, .string (⟨#[]⟩ : ByteArray)]) ?_ 1 _ rfl; (with_reducible repeat (first | refine qc ?_ _ | refine qg ?_ | refine qb ?_ _)); refine qu (cs := #[.int .i64 0, .int .i64 0, .string (⟨#[]⟩ : ByteArray)]) ?_ 0 _ rfl; (with_reducible repeat (first | refine qc ?_ _ | refine qg ?_ | refine qb ?_ _)); exact BK180.out) k_ hk)); (case aO => exact (by (with_reducible repeat (first | apply Kd.R_alloc | apply Kd.R_drewN | apply Kd.R_drew)); exact Kd.R_mono (Kd.R_far (p := ⟨gb180, 2, none⟩) (Kd.R_far (p := ⟨gb180, 1, none⟩) (Kd.R_far (p := ⟨gb180, 0, none⟩) (Kd.R_mono HO_4.out (fun k_ hk => (⟨hk, hk.2⟩ : _ ∧ k_ ≠ gb180))) (fun _ hk => hk.2) (.int .i64 t175)) (fun _ hk => hk.2) (.int .i64 t176)) (fun _ hk => hk.2) (.string t177)) (fun _ hk => hk.1.2))); (case aS => exact (qj (by repeat (first | (with_reducible first | exact HB.out | apply qa | apply q8 | apply qd | refine qf ?_ GE180.out) | exact HB.out)))); (case aL => have := LMc7.out; omega); intro v182 w12 ho hb hg hat; rw [← Ny181.out] at ho; have n0_ := Aside0.mk (za (g := gb180) (o := .cells #[.int .i64 t175, .int .i64 t176, .string t177] 42 (0, 0)) (by (with_reducible repeat (first | refine qc ?_ _ | refine qg ?_ | refine qb ?_ _)); refine qu (cs := #[.int .i64 t175, .int .i64 t176, .string (⟨#[]⟩ : ByteArray)]) ?_ 2 _ rfl; (with_reducible repeat (first | refine qc ?_ _ | refine qg ?_ | refine qb ?_ _)); refine qu (cs := #[.int .i64 t175, .int .i64 0, .string (⟨#[]⟩ : ByteArray)]) ?_ 1 _ rfl; (with_reducible repeat (first | refine qc ?_ _ | refine qg ?_ | refine qb ?_ _)); refine qu (cs := #[.int .i64 0, .int .i64 0, .string (⟨#[]⟩ : ByteArray)]) ?_ 0 _ rfl; (with_reducible repeat (first | refine qc ?_ _ | refine qg ?_ | refine qb ?_ _)); exact BK180.out) hg (Kd.R_away HO_4.out (fun _ hk => hk.2))); have n1_ := Aside0.mk (hb); have n2_ := Aside0.mk (ho); clear BK180; clear HB; clear HO_4; have BK180 := n0_; have HB := n1_; have HO183 := n2_; clear n0_ n1_ n2_; clear ho hb hg hat))
           go_roundg k1
           case measure => have := HK1.out; omega
           case rel => exact ⟨(y181), (t178), (by first | rfl | (simp; done) | (simp [*]; done)), H', ⟨by have := HK1.out; omega⟩, ⟨by (with_reducible repeat (first | apply Kd.R_alloc | apply Kd.R_drewN | apply Kd.R_drew)); exact Kd.R_mono HO183.out (fun _ hk => trivial)⟩, ⟨by repeat (first | (with_reducible first | exact HB.out | apply qa | apply q8 | apply qd | refine qf ?_ GE180.out) | exact HB.out)⟩⟩
         · rw [if_neg c7] at H
           exact absurd H (by simp)
       · rw [if_neg c6] at H
         have c6b0 : (t179 == 0) = false := beq_eq_false_iff_ne.mpr c6;have c6b1 : (t179 != 0) = true := bne_iff_ne.mpr c6;simp only [Option.some.injEq, Prod.mk.injEq] at H;obtain ⟨rfl, rfl⟩ := H;obtain ⟨Ao13, co13, eo13⟩ := Kd.R_slice HO_4.out;subst eo13
         go_wp2_with (first | ((with_reducible refine qC (f := 28) rfl ?_); refine z6 (some 19) rfl rfl Tryz.func28 (by kernel_rfl) rfl #[.string a0, .int .i64 x5_1] rfl (by (try simp only [List.map_toArray, List.map_cons, List.map_nil]); first | done | rfl | (simp only [List.length_drop, List.length_take]; rfl)) ?_; (with_reducible refine (qz.calls k1 a0 x5_1 t175 t176 t177 t178 t179 _ A5.out).mono ?_); rintro e w14 ⟨rfl, hb⟩; refine ⟨_, rfl, ?_⟩; replace HO_4 := Aside0.mk (Kd.R_below (by (with_reducible repeat (first | apply Kd.R_alloc | apply Kd.R_drewN | apply Kd.R_drew)); exact HO_4.out) hb); replace HB := Aside0.mk (qt (by repeat (first | (with_reducible first | exact HB.out | apply qa | apply q8 | apply qd) | exact HB.out)) hb); (try clear hb); (try clear hb2); (try clear hk); (try clear hi)) | ((with_reducible refine qG (N := 6) rfl ?_); refine qF ?hg (N := 6) ?hd (cs := #[.int .i64 0, .int .i64 0, .string (⟨#[]⟩ : ByteArray)]) (t := 42) ?hr ?_; (case hd => rfl); (case hg => rfl); (case hr => first | (go_simp; done) | (go_simp; rfl)); intro gb180 hg w15 hbox hb; replace HO_4 := Aside0.mk (Kd.R_below (Kd.R_elderB (by (with_reducible repeat (first | apply Kd.R_alloc | apply Kd.R_drewN | apply Kd.R_drew)); exact HO_4.out) gb180 (Nat.le_of_eq hg.symm)) hb); have BK180 := Aside0.mk (hbox); have GW180 := Aside0.mk ((by rw [hg]; exact (qj (by repeat (first | (with_reducible first | exact HB.out | apply qa | apply q8 | apply qd) | exact HB.out))) : w.heap.size ≤ gb180)); have GE180 := Aside0.mk ((by rw [hg]; exact (qj (by repeat (first | (with_reducible first | exact HB.out | apply qa | apply q8 | apply qd) | exact HB.out))) : w.heap.size ≤ gb180)); replace HB := Aside0.mk (qt (by repeat (first | (with_reducible first | exact HB.out | apply qa | apply q8 | apply qd) | exact HB.out)) hb); clear hb hbox hg; have hcz16_0 : w15.cell? ⟨gb180, 0, none⟩ = some (.int .i64 0) := (qe BK180.out 0).trans rfl; have hcz16_1 : w15.cell? ⟨gb180, 1, none⟩ = some (.int .i64 0) := (qe BK180.out 1).trans rfl; have hcz16_2 : w15.cell? ⟨gb180, 2, none⟩ = some (.string (⟨#[]⟩ : ByteArray)) := (qe BK180.out 2).trans rfl; have hfz16_0 := q9 BK180.out 0; have hfz16_1 := q9 BK180.out 1; have hfz16_2 := q9 BK180.out 2))
         go_ret2
         exact ⟨_, by first | rfl | (simp [qm, qn] <;> rfl) | (simp [*, qm, qn] <;> rfl), by first | exact Kd.R_nil _ _ _ _ _ | exact Kd.N_nil _ _ _ _ _ | exact Kd.V_nil _ _ _ _ _ | exact Kd.Q_nil _ _ _ _ _ | exact Kd.S_nil _ _ _ _ _, by repeat (first | (with_reducible first | exact HB.out | apply qa | apply q8 | apply qd | refine qf ?_ GE180.out) | exact HB.out)⟩
   · rw [if_neg c2] at H
     have c2b0 : decide (x5_1 < (a0.size : Int)) = false := decide_eq_false c2;clear c2;simp only [Option.some.injEq, Prod.mk.injEq] at H;obtain ⟨rfl, rfl⟩ := H;go_wp2
     go_ret2
     exact ⟨_, by first | rfl | (simp [qm, qn] <;> rfl) | (simp [*, qm, qn] <;> rfl), by (with_reducible repeat (first | apply Kd.R_alloc | apply Kd.R_drewN | apply Kd.R_drew)); exact HO_4.out, by repeat (first | (with_reducible first | exact HB.out | apply qa | apply q8 | apply qd) | exact HB.out)⟩
def zx.f (a0 : ByteArray) (a1 : Int) : Option (Bool) := if a1 ≥ 0 then (some (decide (a1 ≤ (a0.size : Int)))) else (some false)
set_option maxHeartbeats 8000000 in
set_option maxRecDepth 100000 in
theorem zx.calls (a0 : ByteArray) (a1 : Int) (r : Bool) (w : World) (h : zx.f a0 a1 = some r) :
 Calls Tryz.prog 48 #[.string a0, .int .i64 a1] w fun e w' => e = .returned (.bool r) ∧ qE w w' := by
 have H : (if a1 ≥ 0 then (some (decide (a1 ≤ (a0.size : Int)))) else (some false)) = some r := h;clear h
 by_cases c3 : a1 ≥ 0
 · rw [if_pos c3] at H
   have c3b0 : decide (0 ≤ a1) = true := decide_eq_true c3;clear c3;obtain rfl := Option.some.inj H
   go_enter Tryz.func48, Tryz.ntmps48
   go_wp2
   go_ret
   exact ⟨by first | rfl | (simp; done) | (simp [*]; done), by repeat (first | exact qE.refl _ | apply qE.step)⟩
 · rw [if_neg c3] at H
   have c3b0 : decide (0 ≤ a1) = false := decide_eq_false c3;clear c3;obtain rfl := Option.some.inj H
   go_enter Tryz.func48, Tryz.ntmps48
   go_wp2
   go_ret
   exact ⟨by first | rfl | (simp; done) | (simp [*]; done), by repeat (first | exact qE.refl _ | apply qE.step)⟩
end Go.Proofs.YtggbhdcgfnjogaaGreatDoor.PPc

