import Derived.Test.YtggbhdcgfnjogaaGreatDoorKPPcx0
import Derived.Test.YtggbhdcgfnjogaaGreatDoorKPPcx8
import Derived.Test.YtggbhdcgfnjogaaGreatDoorKPPcx10
import Derived.Test.YtggbhdcgfnjogaaGreatDoorKPPcx12
import Derived.Test.YtggbhdcgfnjogaaGreatDoorKPPcx17
namespace Go.Proofs.YtggbhdcgfnjogaaGreatDoor.PPc
open Go.RowKit Go.Proofs.YtggbhdcgfnjogaaGreatDoorW.PrintWords Go.Proofs.YtggbhdcgfnjogaaGreatDoorW.PrintLast Go.Proofs.YtggbhdcgfnjogaaGreatDoorW.PrintMore
set_option linter.unusedVariables false
set_option linter.unusedSimpArgs false
def qX.f (k : Nat) (a0 a1 : ByteArray) : Option TabR :=
 (qI.f k a0).bind fun K => if K.2 = 0 then (if K.1.length = 2 then (qr.f k (qJ K.1 1).f2 a1).bind fun P =>
  (if P.2.2.2.2 = true then (qk.f k P.1 P.2.1 P.2.2.1 P.2.2.2.1).bind fun E => (if E.2.2 = 0 then (if E.1 = a0 ∧ E.2.1 = a1 then some (P.1, P.2.1, P.2.2.1, P.2.2.2.1, 0) else some badT) else some badT) else some badT) else some badT) else some badT
structure Df (w W : World) (a0 a1 : ByteArray) : Prop where
 p : W.heap[w.heap.size]? = some (.cells #[.string a0, .string a1] 23 (0, 0))
 t : W.heap[w.heap.size + 1]? = some (.cells #[.string ⟨#[]⟩, .int .i64 0, .slice none 0 0, .slice none 0 0] 27 (0, 0))
 e : W.heap[w.heap.size + 2]? = some (.cells #[.string ⟨#[]⟩, .int .i64 0, .slice none 0 0, .slice none 0 0] 27 (0, 0))
 b : Below w.heap.size w W
theorem Df.size {w W : World} {a0 a1 : ByteArray} (h : Df w W a0 a1) : w.heap.size + 3 ≤ W.heap.size := by have := qK h.e; omega
theorem Df.below {w W W1 : World} {a0 a1 : ByteArray} (h : Df w W a0 a1) (hb : Below W.heap.size W W1) : Df w W1 a0 a1 := ⟨qp h.p hb, qp h.t hb, qp h.e hb, vi h.b (by have := h.size; omega) hb⟩
theorem df_new (w : World) (a0 a1 : ByteArray) : Df w (((w.alloc (.cells #[.string a0, .string a1] 23)).alloc (.cells #[.string ⟨#[]⟩, .int .i64 0, .slice none 0 0, .slice none 0 0] 27)).alloc (.cells #[.string ⟨#[]⟩, .int .i64 0, .slice none 0 0, .slice none 0 0] 27)) a0 a1 := by
 refine ⟨qb (qb (heap_alloc_new w _) _) _, ?_, ?_, qa (qa (qa (Below.refl _ _) _) _) _⟩
 · have := qb (heap_alloc_new (w.alloc (.cells #[.string a0, .string a1] 23)) (.cells #[.string ⟨#[]⟩, .int .i64 0, .slice none 0 0, .slice none 0 0] 27)) (.cells #[.string ⟨#[]⟩, .int .i64 0, .slice none 0 0, .slice none 0 0] 27)
   rw [World.size_alloc] at this
   exact this
 · have := heap_alloc_new ((w.alloc (.cells #[.string a0, .string a1] 23)).alloc (.cells #[.string ⟨#[]⟩, .int .i64 0, .slice none 0 0, .slice none 0 0] 27)) (.cells #[.string ⟨#[]⟩, .int .i64 0, .slice none 0 0, .slice none 0 0] 27)
   rw [World.size_alloc, World.size_alloc] at this
   exact this
structure DfF (w W : World) (a0 a1 : ByteArray) : Prop where
 p0 : W.cell? ⟨w.heap.size, 0, none⟩ = some (.string a0)
 p1 : W.cell? ⟨w.heap.size, 1, none⟩ = some (.string a1)
 t0 : W.cell? ⟨w.heap.size + 1, 0, none⟩ = some (.string ⟨#[]⟩)
 t1 : W.cell? ⟨w.heap.size + 1, 1, none⟩ = some (.int .i64 0)
 t2 : W.cell? ⟨w.heap.size + 1, 2, none⟩ = some (.slice none 0 0)
 t3 : W.cell? ⟨w.heap.size + 1, 3, none⟩ = some (.slice none 0 0)
 f0 : W.frozen? ⟨w.heap.size + 1, 0, none⟩ = false
 f1 : W.frozen? ⟨w.heap.size + 1, 1, none⟩ = false
 f2 : W.frozen? ⟨w.heap.size + 1, 2, none⟩ = false
 f3 : W.frozen? ⟨w.heap.size + 1, 3, none⟩ = false
 e0 : W.cell? ⟨w.heap.size + 1 + 1, 0, none⟩ = some (.string ⟨#[]⟩)
 e1 : W.cell? ⟨w.heap.size + 1 + 1, 1, none⟩ = some (.int .i64 0)
 e2 : W.cell? ⟨w.heap.size + 1 + 1, 2, none⟩ = some (.slice none 0 0)
 e3 : W.cell? ⟨w.heap.size + 1 + 1, 3, none⟩ = some (.slice none 0 0)
theorem Df.facts {w W : World} {a0 a1 : ByteArray} (h : Df w W a0 a1) : DfF w W a0 a1 :=
 ⟨(qe h.p 0).trans rfl, (qe h.p 1).trans rfl, (qe h.t 0).trans rfl, (qe h.t 1).trans rfl, (qe h.t 2).trans rfl, (qe h.t 3).trans rfl, q9 h.t 0, q9 h.t 1, q9 h.t 2, q9 h.t 3, (qe h.e 0).trans rfl, (qe h.e 1).trans rfl, (qe h.e 2).trans rfl, (qe h.e 3).trans rfl⟩
theorem Df.put {w W : World} {a0 a1 : ByteArray} (h : Df w W a0 a1) (x y z u : Value) :
 ((((W.setCell ⟨w.heap.size + 1, 0, none⟩ x).setCell ⟨w.heap.size + 1, 1, none⟩ y).setCell ⟨w.heap.size + 1, 2, none⟩ z).setCell ⟨w.heap.size + 1, 3, none⟩ u).heap[w.heap.size + 1]? = some (.cells #[x, y, z, u] 27 (0, 0)) ∧
 Below w.heap.size w ((((W.setCell ⟨w.heap.size + 1, 0, none⟩ x).setCell ⟨w.heap.size + 1, 1, none⟩ y).setCell ⟨w.heap.size + 1, 2, none⟩ z).setCell ⟨w.heap.size + 1, 3, none⟩ u) :=
 ⟨qu (qu (qu (qu h.t 0 x rfl) 1 y rfl) 2 z rfl) 3 u rfl, qf (qf (qf (qf h.b (by omega)) (by omega)) (by omega)) (by omega)⟩
structure New4 (W : World) (n : Nat) (x y z u : Value) : Prop where
 c0 : W.cell? ⟨n, 0, none⟩ = some x
 c1 : W.cell? ⟨n, 1, none⟩ = some y
 c2 : W.cell? ⟨n, 2, none⟩ = some z
 c3 : W.cell? ⟨n, 3, none⟩ = some u
 f0 : W.frozen? ⟨n, 0, none⟩ = false
 f1 : W.frozen? ⟨n, 1, none⟩ = false
 f2 : W.frozen? ⟨n, 2, none⟩ = false
 f3 : W.frozen? ⟨n, 3, none⟩ = false
theorem new4 {W : World} {n : Nat} {x y z u : Value} (h : W.heap[n]? = some (.cells #[x, y, z, u] 27 (0, 0))) : New4 W n x y z u :=
 ⟨(qe h 0).trans rfl, (qe h 1).trans rfl, (qe h 2).trans rfl, (qe h 3).trans rfl, q9 h 0, q9 h 1, q9 h 2, q9 h 3⟩
theorem Df.far {w W : World} {a0 a1 : ByteArray} (h : Df w W a0 a1) (n : Nat) (hn : w.heap.size + 3 ≤ n) (i : Nat) (v : Value) : Df w (W.setCell ⟨n, i, none⟩ v) a0 a1 :=
 ⟨(heap_setCell_other _ ⟨n, i, none⟩ _ v (by show w.heap.size ≠ n; omega)).trans h.p, (heap_setCell_other _ ⟨n, i, none⟩ _ v (by show w.heap.size + 1 ≠ n; omega)).trans h.t, (heap_setCell_other _ ⟨n, i, none⟩ _ v (by show w.heap.size + 2 ≠ n; omega)).trans h.e, qf h.b (by omega)⟩
theorem vd {α : Type} {d : Kd α} {t base : Nat} {W : World} {v : Value} {xs : List α} {n : Nat} {a b c e : Value} (h : Kd.R d t W base (fun _ => True) v xs) (hn : W.heap[n]? = some (.cells #[a, b, c, e] 27 (0, 0))) (hd : ∀ q ∈ t :: d.E, q ≠ 27) (x y z u : Value) :
 Kd.R d t ((((W.setCell ⟨n, 0, none⟩ x).setCell ⟨n, 1, none⟩ y).setCell ⟨n, 2, none⟩ z).setCell ⟨n, 3, none⟩ u) base (fun _ => True) v xs :=
 have h0 := qu hn 0 x rfl;have h1 := qu h0 1 y rfl;have h2 := qu h1 2 z rfl
 Kd.R_set (Kd.R_set (Kd.R_set (Kd.R_set h hn hd 0 x) h0 hd 1 y) h1 hd 2 z) h2 hd 3 u
theorem tab_puts {W : World} {n : Nat} {a b c e : Value} (hn : W.heap[n]? = some (.cells #[a, b, c, e] 27 (0, 0))) (x y z u : Value) :
 ((((W.setCell ⟨n, 0, none⟩ x).setCell ⟨n, 1, none⟩ y).setCell ⟨n, 2, none⟩ z).setCell ⟨n, 3, none⟩ u).heap[n]? = some (.cells #[x, y, z, u] 27 (0, 0)) :=
 qu (qu (qu (qu hn 0 x rfl) 1 y rfl) 2 z rfl) 3 u rfl
set_option maxHeartbeats 4000000 in
set_option maxRecDepth 100000 in
theorem qX.run (k : Nat) (a0 a1 : ByteArray) (r : TabR) (w : World) (h : qX.f k a0 a1 = some r) :
 Calls Tryz.prog 5 #[.agg #[.string a0, .string a1]] w fun e w' => decOut w r e w' := by
 unfold qX.f at h;obtain ⟨⟨K, ke⟩, hK, h2⟩ := Option.bind_eq_some_iff.1 h
 simp only at h2
 have HK := Aside0.mk hK;clear h hK;have HN := Aside0.mk (df_new w a0 a1)
 by_cases he : ke = 0
 case neg =>
  rw [if_neg he] at h2;obtain rfl := Option.some.inj h2
  have d1 : (ke != 0) = true := by simpa using he
  go_enter Tryz.func5, Tryz.ntmps5
  go_wp2_with (first
   | (go_at_call 15; go_must (refine (qI.calls k a0 K ke _ HK.out).mono ?_; rintro e w1 ⟨v0, rfl, hk, hb⟩; have HD1 := Aside0.mk (HN.out.below hb); obtain ⟨p0, p1, t0, t1, t2, t3, f0, f1, f2, f3, e0, e1, e2, e3⟩ := HD1.out.facts; clear hk hb)))
  refine bodyPost_ret (zc rfl _ _ (w.heap.size + 1) 27 _ (0, 0) _ rfl (HD1.out.put _ _ _ _).1 Tryz.underlying27 rfl (by kernel_rfl)) rfl ?_
  exact ⟨_, _, rfl, Kd.R_nil _ _ _ _ _, Kd.R_nil _ _ _ _ _, (HD1.out.put _ _ _ _).2⟩
 rw [if_pos he] at h2;subst he
 by_cases hl : K.length = 2
 case neg =>
  rw [if_neg hl] at h2;obtain rfl := Option.some.inj h2
  have d1 : ((K.length : Int) != 2) = true := by simp; omega
  go_enter Tryz.func5, Tryz.ntmps5
  go_wp2_with (first | (go_at_call 15; go_must (refine (qI.calls k a0 K 0 _ HK.out).mono ?_; rintro e w1 ⟨v0, rfl, hk, hb⟩; have HD1 := Aside0.mk (HN.out.below hb); obtain ⟨p0, p1, t0, t1, t2, t3, f0, f1, f2, f3, e0, e1, e2, e3⟩ := HD1.out.facts; obtain ⟨A, cc, rfl⟩ := Kd.R_slice hk; clear hk hb)))
  refine bodyPost_ret (zc rfl _ _ (w.heap.size + 1) 27 _ (0, 0) _ rfl (HD1.out.put _ _ _ _).1 Tryz.underlying27 rfl (by kernel_rfl)) rfl ?_
  exact ⟨_, _, rfl, Kd.R_nil _ _ _ _ _, Kd.R_nil _ _ _ _ _, (HD1.out.put _ _ _ _).2⟩
 rw [if_pos hl] at h2
 have d1 : ((K.length : Int) != 2) = false := by simp; omega
 have hl2 : (1 : Int) < K.length := by omega
 obtain ⟨⟨nm, num, cols, key, ok⟩, hP, h3⟩ := Option.bind_eq_some_iff.1 h2;clear h2;obtain ⟨x1, hx1⟩ : ∃ x1, (qJ K 1).f2 = x1 := ⟨_, rfl⟩;rw [hx1] at hP;have HX := Aside0.mk hx1;have HP := Aside0.mk hP;have H3 := Aside0.mk h3;clear hP h3 hx1
 go_enter Tryz.func5, Tryz.ntmps5
 go_wp2_with (first | (go_at_call 15; go_must (refine (qI.calls k a0 K 0 _ HK.out).mono ?_; rintro e w1 ⟨v0, rfl, hk, hb⟩; have HD1 := Aside0.mk (HN.out.below hb); obtain ⟨p0, p1, t0, t1, t2, t3, f0, f1, f2, f3, e0, e1, e2, e3⟩ := HD1.out.facts; obtain ⟨A, cc, rfl⟩ := Kd.R_slice hk; obtain ⟨ad, ea, _, _, hcell⟩ := vj (Kd.R_reads' hk).2.2 1 (by decide) hl2; cases ea; simp only [Int.reduceToNat, Nat.one_mul] at hcell; rw [HX.out] at hcell; replace hcell : w1.cell? ⟨ad.block, ad.off + 3 + 2, none⟩ = some (.string x1) := hcell; clear hk hb)))
 have ne1 := World.new_ne w1 _ hcell;have ne2 := World.new_ne w1 _ p1
 go_region_held3 (fun w' => w'.cell? ⟨ad.block, ad.off + 3 + 2, none⟩ = some (.string x1) ∧ w'.cell? ⟨w.heap.size, 1, none⟩ = some (.string a1)) (go_keep)
  (first | (go_at_call 16; refine (qr.calls k x1 a1 nm num cols key ok _ HP.out).mono ?_; rintro e w2 ⟨v2, v3, rfl, hk2, hk3, hb⟩; obtain ⟨A2, c2, rfl⟩ := Kd.R_slice hk2; obtain ⟨A3, c3, rfl⟩ := Kd.R_slice hk3; have s1 : w2.cell? ⟨ad.block, ad.off + 3 + 2, none⟩ = some (.string x1) := zg hb (by first | exact hcell | exact zg (qa (Below.refl _ _) _) hcell | exact zg (qd (qa (Below.refl _ _) _)) hcell | exact zg (qa (qd (Below.refl _ _)) _) hcell); have s2 : w2.cell? ⟨w.heap.size, 1, none⟩ = some (.string a1) := zg hb (by first | exact p1 | exact zg (qa (Below.refl _ _) _) p1 | exact zg (qd (qa (Below.refl _ _) _)) p1 | exact zg (qa (qd (Below.refl _ _)) _) p1); first | (have hq := new4 (n := w1.heap.size) (qp (qg (heap_alloc_new w1 _)) hb); obtain ⟨q0, q1, q2, q3, q4, q5, q6, q7⟩ := hq) | (have hq := new4 (n := w1.heap.size) (qp (heap_alloc_new w1 _) hb); obtain ⟨q0, q1, q2, q3, q4, q5, q6, q7⟩ := hq) | (have hq := new4 (n := w1.heap.size) (qp (heap_alloc_new w1.drew _) hb); obtain ⟨q0, q1, q2, q3, q4, q5, q6, q7⟩ := hq) | skip))
 all_goals have hC : ∀ q ∈ 49 :: k49.E, q ≠ 27 := by decide
 all_goals have hI : ∀ q ∈ 3 :: (Kd.int .i64).E, q ≠ 27 := by decide
 · have HD2 := (HD1.out.below (qd (Below.refl _ _))).below hb
   have HDn := Aside0.mk (HD2.below (qa (Below.refl _ _) (.cells #[.string nm, .int .i64 num, .slice A2 cols.length c2, .slice A3 key.length c3] 27)));have HK2 := Aside0.mk (Kd.R_alloc (Kd.R_lower (base' := w.heap.size) hk2 (by have := HD1.out.size; simp; omega)) (.cells #[.string nm, .int .i64 num, .slice A2 cols.length c2, .slice A3 key.length c3] 27));have HK3 := Aside0.mk (Kd.R_alloc (Kd.R_lower (base' := w.heap.size) hk3 (by have := HD1.out.size; simp; omega)) (.cells #[.string nm, .int .i64 num, .slice A2 cols.length c2, .slice A3 key.length c3] 27));have HT := Aside0.mk (heap_alloc_new w2 (.cells #[.string nm, .int .i64 num, .slice A2 cols.length c2, .slice A3 key.length c3] 27));generalize w2.alloc (.cells #[.string nm, .int .i64 num, .slice A2 cols.length c2, .slice A3 key.length c3] 27) = W at *;generalize w2.heap.size = n at *;clear hk2 hk3 hb HD2 s1 s2 ne1 ne2 hcell p0 p1 t0 t1 t2 t3 f0 f1 f2 f3 e0 e1 e2 e3;obtain ⟨p0, p1, t0, t1, t2, t3, f0, f1, f2, f3, e0, e1, e2, e3⟩ := HDn.out.facts
   cases ok with
   | false =>
    have h4 := H3.out;rw [if_neg (by simp)] at h4;obtain rfl := Option.some.inj h4;go_wp2;refine bodyPost_ret (zc rfl _ _ (w.heap.size + 1) 27 _ (0, 0) _ rfl (HDn.out.put _ _ _ _).1 Tryz.underlying27 rfl (by kernel_rfl)) rfl ?_
    exact ⟨_, _, rfl, Kd.R_nil _ _ _ _ _, Kd.R_nil _ _ _ _ _, (HDn.out.put _ _ _ _).2⟩
   | true =>
    have h4 := H3.out;rw [if_pos rfl] at h4;obtain ⟨⟨E1, E2, ec⟩, hE, h8⟩ := Option.bind_eq_some_iff.1 h4
    simp only at h8
    have HE := Aside0.mk hE;clear h4 hE H3;obtain ⟨g0, g1, g2, g3, _, _, _, _⟩ := new4 HT.out
    by_cases hec : ec = 0
    case neg =>
     rw [if_neg hec] at h8;obtain rfl := Option.some.inj h8
     have d2 : (ec != 0) = true := by simpa using hec
     go_wp2_with (first | (go_at_call 17; go_must (refine (qk.calls k nm num A2 c2 cols A3 c3 key E1 E2 ec _ (Kd.R_reads' HK2.out).2.2 (Kd.R_reads' HK2.out).2.1 (Kd.R_reads' HK3.out).2.2 (Kd.R_reads' HK3.out).2.1 HE.out).mono ?_; rintro e w5 ⟨rfl, hb⟩; have HD5 := Aside0.mk (HDn.out.below hb); have HK25 := Aside0.mk (Kd.R_alloc (Kd.R_below HK2.out hb) (.cells #[.string E1, .string E2] 23)); have HK35 := Aside0.mk (Kd.R_alloc (Kd.R_below HK3.out hb) (.cells #[.string E1, .string E2] 23)); have HT5 := Aside0.mk (qp HT.out hb); clear hb p0 p1 t0 t1 t2 t3 f0 f1 f2 f3 e0 e1 e2 e3 g0 g1 g2 g3; have HD6 := Aside0.mk (HD5.out.below (qa (Below.refl _ _) (.cells #[.string E1, .string E2] 23))); obtain ⟨p0, p1, t0, t1, t2, t3, f0, f1, f2, f3, e0, e1, e2, e3⟩ := HD6.out.facts; have hsz5 := HD5.out.size; have hn0 : ¬ w5.heap.size = w.heap.size := (by omega); have hn1 : ¬ w.heap.size = w5.heap.size := (by omega); have HT6 := Aside0.mk (qb HT5.out (.cells #[.string E1, .string E2] 23)); obtain ⟨g0, g1, g2, g3, _, _, _, _⟩ := new4 HT6.out)))
     refine bodyPost_ret (zc rfl _ _ (w.heap.size + 1) 27 _ (0, 0) _ rfl (HD6.out.put _ _ _ _).1 Tryz.underlying27 rfl (by kernel_rfl)) rfl ?_
     exact ⟨_, _, rfl, Kd.R_nil _ _ _ _ _, Kd.R_nil _ _ _ _ _, (HD6.out.put _ _ _ _).2⟩
    rw [if_pos hec] at h8;subst hec
    by_cases heq : E1 = a0 ∧ E2 = a1
    case neg =>
     rw [if_neg heq] at h8;obtain rfl := Option.some.inj h8
     by_cases e1' : E1 = a0
     · have n2 : ¬ E2.toList = a1.toList := fun h => heq ⟨e1', ba_ext h⟩
       subst e1';clear heq
       go_wp2_with (first | (go_at_call 17; go_must (refine (qk.calls k nm num A2 c2 cols A3 c3 key E1 E2 0 _ (Kd.R_reads' HK2.out).2.2 (Kd.R_reads' HK2.out).2.1 (Kd.R_reads' HK3.out).2.2 (Kd.R_reads' HK3.out).2.1 HE.out).mono ?_; rintro e w5 ⟨rfl, hb⟩; have HD5 := Aside0.mk (HDn.out.below hb); have HK25 := Aside0.mk (Kd.R_alloc (Kd.R_below HK2.out hb) (.cells #[.string E1, .string E2] 23)); have HK35 := Aside0.mk (Kd.R_alloc (Kd.R_below HK3.out hb) (.cells #[.string E1, .string E2] 23)); have HT5 := Aside0.mk (qp HT.out hb); clear hb p0 p1 t0 t1 t2 t3 f0 f1 f2 f3 e0 e1 e2 e3 g0 g1 g2 g3; have HD6 := Aside0.mk (HD5.out.below (qa (Below.refl _ _) (.cells #[.string E1, .string E2] 23))); obtain ⟨p0, p1, t0, t1, t2, t3, f0, f1, f2, f3, e0, e1, e2, e3⟩ := HD6.out.facts; have hsz5 := HD5.out.size; have hn0 : ¬ w5.heap.size = w.heap.size := (by omega); have hn1 : ¬ w.heap.size = w5.heap.size := (by omega); have HT6 := Aside0.mk (qb HT5.out (.cells #[.string E1, .string E2] 23)); obtain ⟨g0, g1, g2, g3, _, _, _, _⟩ := new4 HT6.out)))
       refine bodyPost_ret (zc rfl _ _ (w.heap.size + 1) 27 _ (0, 0) _ rfl (HD6.out.put _ _ _ _).1 Tryz.underlying27 rfl (by kernel_rfl)) rfl ?_
       exact ⟨_, _, rfl, Kd.R_nil _ _ _ _ _, Kd.R_nil _ _ _ _ _, (HD6.out.put _ _ _ _).2⟩
     · have n1 : ¬ E1.toList = a0.toList := fun h => e1' (ba_ext h)
       clear heq
       go_wp2_with (first | (go_at_call 17; go_must (refine (qk.calls k nm num A2 c2 cols A3 c3 key E1 E2 0 _ (Kd.R_reads' HK2.out).2.2 (Kd.R_reads' HK2.out).2.1 (Kd.R_reads' HK3.out).2.2 (Kd.R_reads' HK3.out).2.1 HE.out).mono ?_; rintro e w5 ⟨rfl, hb⟩; have HD5 := Aside0.mk (HDn.out.below hb); have HK25 := Aside0.mk (Kd.R_alloc (Kd.R_below HK2.out hb) (.cells #[.string E1, .string E2] 23)); have HK35 := Aside0.mk (Kd.R_alloc (Kd.R_below HK3.out hb) (.cells #[.string E1, .string E2] 23)); have HT5 := Aside0.mk (qp HT.out hb); clear hb p0 p1 t0 t1 t2 t3 f0 f1 f2 f3 e0 e1 e2 e3 g0 g1 g2 g3; have HD6 := Aside0.mk (HD5.out.below (qa (Below.refl _ _) (.cells #[.string E1, .string E2] 23))); obtain ⟨p0, p1, t0, t1, t2, t3, f0, f1, f2, f3, e0, e1, e2, e3⟩ := HD6.out.facts; have hsz5 := HD5.out.size; have hn0 : ¬ w5.heap.size = w.heap.size := (by omega); have hn1 : ¬ w.heap.size = w5.heap.size := (by omega); have HT6 := Aside0.mk (qb HT5.out (.cells #[.string E1, .string E2] 23)); obtain ⟨g0, g1, g2, g3, _, _, _, _⟩ := new4 HT6.out)))
       all_goals
        refine bodyPost_ret (zc rfl _ _ (w.heap.size + 1) 27 _ (0, 0) _ rfl (HD6.out.put _ _ _ _).1 Tryz.underlying27 rfl (by kernel_rfl)) rfl ?_
        exact ⟨_, _, rfl, Kd.R_nil _ _ _ _ _, Kd.R_nil _ _ _ _ _, (HD6.out.put _ _ _ _).2⟩
    rw [if_pos heq] at h8;obtain rfl := Option.some.inj h8;obtain ⟨rfl, rfl⟩ := heq
    go_wp2_with (first | (go_at_call 17; go_must (refine (qk.calls k nm num A2 c2 cols A3 c3 key E1 E2 0 _ (Kd.R_reads' HK2.out).2.2 (Kd.R_reads' HK2.out).2.1 (Kd.R_reads' HK3.out).2.2 (Kd.R_reads' HK3.out).2.1 HE.out).mono ?_; rintro e w5 ⟨rfl, hb⟩; have HD5 := Aside0.mk (HDn.out.below hb); have HK25 := Aside0.mk (Kd.R_alloc (Kd.R_below HK2.out hb) (.cells #[.string E1, .string E2] 23)); have HK35 := Aside0.mk (Kd.R_alloc (Kd.R_below HK3.out hb) (.cells #[.string E1, .string E2] 23)); have HT5 := Aside0.mk (qp HT.out hb); clear hb p0 p1 t0 t1 t2 t3 f0 f1 f2 f3 e0 e1 e2 e3 g0 g1 g2 g3; have HD6 := Aside0.mk (HD5.out.below (qa (Below.refl _ _) (.cells #[.string E1, .string E2] 23))); obtain ⟨p0, p1, t0, t1, t2, t3, f0, f1, f2, f3, e0, e1, e2, e3⟩ := HD6.out.facts; have hsz5 := HD5.out.size; have hn0 : ¬ w5.heap.size = w.heap.size := (by omega); have hn1 : ¬ w.heap.size = w5.heap.size := (by omega); have HT6 := Aside0.mk (qb HT5.out (.cells #[.string E1, .string E2] 23)); obtain ⟨g0, g1, g2, g3, _, _, _, _⟩ := new4 HT6.out)))
    refine bodyPost_ret (zc rfl _ _ (w.heap.size + 1) 27 _ (0, 0) _ rfl (HD6.out.put _ _ _ _).1 Tryz.underlying27 rfl (by kernel_rfl)) rfl ?_
    exact ⟨_, _, rfl, vd HK25.out HD6.out.t hC _ _ _ _, vd HK35.out HD6.out.t hI _ _ _ _, (HD6.out.put _ _ _ _).2⟩
 · have HDZ := HD1.out.below (qd (qa (Below.refl _ _) (.cells #[.string ⟨#[]⟩, .int .i64 0, .slice none 0 0, .slice none 0 0] 27)))
   have HD2 := HDZ.below hb;have hsz1 := HD1.out.size;have hz : w2.heap[w1.heap.size]? = some (.cells #[.string ⟨#[]⟩, .int .i64 0, .slice none 0 0, .slice none 0 0] 27 (0, 0)) := qp (qg (heap_alloc_new w1 _)) hb;have HDn := Aside0.mk ((((HD2.far w1.heap.size hsz1 0 (.string nm)).far w1.heap.size hsz1 1 (.int .i64 num)).far w1.heap.size hsz1 2 (.slice A2 cols.length c2)).far w1.heap.size hsz1 3 (.slice A3 key.length c3));have HK2 := Aside0.mk (vd (Kd.R_lower (base' := w.heap.size) hk2 (by simp; omega)) hz hC (.string nm) (.int .i64 num) (.slice A2 cols.length c2) (.slice A3 key.length c3));have HK3 := Aside0.mk (vd (Kd.R_lower (base' := w.heap.size) hk3 (by simp; omega)) hz hI (.string nm) (.int .i64 num) (.slice A2 cols.length c2) (.slice A3 key.length c3));have HT := Aside0.mk (tab_puts hz (.string nm) (.int .i64 num) (.slice A2 cols.length c2) (.slice A3 key.length c3));generalize ((((w2.setCell ⟨w1.heap.size, 0, none⟩ (.string nm)).setCell ⟨w1.heap.size, 1, none⟩ (.int .i64 num)).setCell ⟨w1.heap.size, 2, none⟩ (.slice A2 cols.length c2)).setCell ⟨w1.heap.size, 3, none⟩ (.slice A3 key.length c3)) = W at *;generalize w1.heap.size = n at *;clear hk2 hk3 hb HD2 HDZ hz hsz1 s1 s2 ne1 ne2 hcell p0 p1 t0 t1 t2 t3 f0 f1 f2 f3 e0 e1 e2 e3 q0 q1 q2 q3 q4 q5 q6 q7;obtain ⟨p0, p1, t0, t1, t2, t3, f0, f1, f2, f3, e0, e1, e2, e3⟩ := HDn.out.facts
   cases ok with
   | false =>
    have h4 := H3.out;rw [if_neg (by simp)] at h4;obtain rfl := Option.some.inj h4;go_wp2;refine bodyPost_ret (zc rfl _ _ (w.heap.size + 1) 27 _ (0, 0) _ rfl (HDn.out.put _ _ _ _).1 Tryz.underlying27 rfl (by kernel_rfl)) rfl ?_
    exact ⟨_, _, rfl, Kd.R_nil _ _ _ _ _, Kd.R_nil _ _ _ _ _, (HDn.out.put _ _ _ _).2⟩
   | true =>
    have h4 := H3.out;rw [if_pos rfl] at h4;obtain ⟨⟨E1, E2, ec⟩, hE, h8⟩ := Option.bind_eq_some_iff.1 h4
    simp only at h8
    have HE := Aside0.mk hE;clear h4 hE H3;obtain ⟨g0, g1, g2, g3, _, _, _, _⟩ := new4 HT.out
    by_cases hec : ec = 0
    case neg =>
     rw [if_neg hec] at h8;obtain rfl := Option.some.inj h8
     have d2 : (ec != 0) = true := by simpa using hec
     go_wp2_with (first | (go_at_call 17; go_must (refine (qk.calls k nm num A2 c2 cols A3 c3 key E1 E2 ec _ (Kd.R_reads' HK2.out).2.2 (Kd.R_reads' HK2.out).2.1 (Kd.R_reads' HK3.out).2.2 (Kd.R_reads' HK3.out).2.1 HE.out).mono ?_; rintro e w5 ⟨rfl, hb⟩; have HD5 := Aside0.mk (HDn.out.below hb); have HK25 := Aside0.mk (Kd.R_alloc (Kd.R_below HK2.out hb) (.cells #[.string E1, .string E2] 23)); have HK35 := Aside0.mk (Kd.R_alloc (Kd.R_below HK3.out hb) (.cells #[.string E1, .string E2] 23)); have HT5 := Aside0.mk (qp HT.out hb); clear hb p0 p1 t0 t1 t2 t3 f0 f1 f2 f3 e0 e1 e2 e3 g0 g1 g2 g3; have HD6 := Aside0.mk (HD5.out.below (qa (Below.refl _ _) (.cells #[.string E1, .string E2] 23))); obtain ⟨p0, p1, t0, t1, t2, t3, f0, f1, f2, f3, e0, e1, e2, e3⟩ := HD6.out.facts; have hsz5 := HD5.out.size; have hn0 : ¬ w5.heap.size = w.heap.size := (by omega); have hn1 : ¬ w.heap.size = w5.heap.size := (by omega); have HT6 := Aside0.mk (qb HT5.out (.cells #[.string E1, .string E2] 23)); obtain ⟨g0, g1, g2, g3, _, _, _, _⟩ := new4 HT6.out)))
     refine bodyPost_ret (zc rfl _ _ (w.heap.size + 1) 27 _ (0, 0) _ rfl (HD6.out.put _ _ _ _).1 Tryz.underlying27 rfl (by kernel_rfl)) rfl ?_
     exact ⟨_, _, rfl, Kd.R_nil _ _ _ _ _, Kd.R_nil _ _ _ _ _, (HD6.out.put _ _ _ _).2⟩
    rw [if_pos hec] at h8;subst hec
    by_cases heq : E1 = a0 ∧ E2 = a1
    case neg =>
     rw [if_neg heq] at h8;obtain rfl := Option.some.inj h8
     by_cases e1' : E1 = a0
     · have n2 : ¬ E2.toList = a1.toList := fun h => heq ⟨e1', ba_ext h⟩
       subst e1';clear heq
       go_wp2_with (first | (go_at_call 17; go_must (refine (qk.calls k nm num A2 c2 cols A3 c3 key E1 E2 0 _ (Kd.R_reads' HK2.out).2.2 (Kd.R_reads' HK2.out).2.1 (Kd.R_reads' HK3.out).2.2 (Kd.R_reads' HK3.out).2.1 HE.out).mono ?_; rintro e w5 ⟨rfl, hb⟩; have HD5 := Aside0.mk (HDn.out.below hb); have HK25 := Aside0.mk (Kd.R_alloc (Kd.R_below HK2.out hb) (.cells #[.string E1, .string E2] 23)); have HK35 := Aside0.mk (Kd.R_alloc (Kd.R_below HK3.out hb) (.cells #[.string E1, .string E2] 23)); have HT5 := Aside0.mk (qp HT.out hb); clear hb p0 p1 t0 t1 t2 t3 f0 f1 f2 f3 e0 e1 e2 e3 g0 g1 g2 g3; have HD6 := Aside0.mk (HD5.out.below (qa (Below.refl _ _) (.cells #[.string E1, .string E2] 23))); obtain ⟨p0, p1, t0, t1, t2, t3, f0, f1, f2, f3, e0, e1, e2, e3⟩ := HD6.out.facts; have hsz5 := HD5.out.size; have hn0 : ¬ w5.heap.size = w.heap.size := (by omega); have hn1 : ¬ w.heap.size = w5.heap.size := (by omega); have HT6 := Aside0.mk (qb HT5.out (.cells #[.string E1, .string E2] 23)); obtain ⟨g0, g1, g2, g3, _, _, _, _⟩ := new4 HT6.out)))
       refine bodyPost_ret (zc rfl _ _ (w.heap.size + 1) 27 _ (0, 0) _ rfl (HD6.out.put _ _ _ _).1 Tryz.underlying27 rfl (by kernel_rfl)) rfl ?_
       exact ⟨_, _, rfl, Kd.R_nil _ _ _ _ _, Kd.R_nil _ _ _ _ _, (HD6.out.put _ _ _ _).2⟩
     · have n1 : ¬ E1.toList = a0.toList := fun h => e1' (ba_ext h)
       clear heq
       go_wp2_with (first | (go_at_call 17; go_must (refine (qk.calls k nm num A2 c2 cols A3 c3 key E1 E2 0 _ (Kd.R_reads' HK2.out).2.2 (Kd.R_reads' HK2.out).2.1 (Kd.R_reads' HK3.out).2.2 (Kd.R_reads' HK3.out).2.1 HE.out).mono ?_; rintro e w5 ⟨rfl, hb⟩; have HD5 := Aside0.mk (HDn.out.below hb); have HK25 := Aside0.mk (Kd.R_alloc (Kd.R_below HK2.out hb) (.cells #[.string E1, .string E2] 23)); have HK35 := Aside0.mk (Kd.R_alloc (Kd.R_below HK3.out hb) (.cells #[.string E1, .string E2] 23)); have HT5 := Aside0.mk (qp HT.out hb); clear hb p0 p1 t0 t1 t2 t3 f0 f1 f2 f3 e0 e1 e2 e3 g0 g1 g2 g3; have HD6 := Aside0.mk (HD5.out.below (qa (Below.refl _ _) (.cells #[.string E1, .string E2] 23))); obtain ⟨p0, p1, t0, t1, t2, t3, f0, f1, f2, f3, e0, e1, e2, e3⟩ := HD6.out.facts; have hsz5 := HD5.out.size; have hn0 : ¬ w5.heap.size = w.heap.size := (by omega); have hn1 : ¬ w.heap.size = w5.heap.size := (by omega); have HT6 := Aside0.mk (qb HT5.out (.cells #[.string E1, .string E2] 23)); obtain ⟨g0, g1, g2, g3, _, _, _, _⟩ := new4 HT6.out)))
       all_goals
        refine bodyPost_ret (zc rfl _ _ (w.heap.size + 1) 27 _ (0, 0) _ rfl (HD6.out.put _ _ _ _).1 Tryz.underlying27 rfl (by kernel_rfl)) rfl ?_
        exact ⟨_, _, rfl, Kd.R_nil _ _ _ _ _, Kd.R_nil _ _ _ _ _, (HD6.out.put _ _ _ _).2⟩
    rw [if_pos heq] at h8;obtain rfl := Option.some.inj h8;obtain ⟨rfl, rfl⟩ := heq
    go_wp2_with (first | (go_at_call 17; go_must (refine (qk.calls k nm num A2 c2 cols A3 c3 key E1 E2 0 _ (Kd.R_reads' HK2.out).2.2 (Kd.R_reads' HK2.out).2.1 (Kd.R_reads' HK3.out).2.2 (Kd.R_reads' HK3.out).2.1 HE.out).mono ?_; rintro e w5 ⟨rfl, hb⟩; have HD5 := Aside0.mk (HDn.out.below hb); have HK25 := Aside0.mk (Kd.R_alloc (Kd.R_below HK2.out hb) (.cells #[.string E1, .string E2] 23)); have HK35 := Aside0.mk (Kd.R_alloc (Kd.R_below HK3.out hb) (.cells #[.string E1, .string E2] 23)); have HT5 := Aside0.mk (qp HT.out hb); clear hb p0 p1 t0 t1 t2 t3 f0 f1 f2 f3 e0 e1 e2 e3 g0 g1 g2 g3; have HD6 := Aside0.mk (HD5.out.below (qa (Below.refl _ _) (.cells #[.string E1, .string E2] 23))); obtain ⟨p0, p1, t0, t1, t2, t3, f0, f1, f2, f3, e0, e1, e2, e3⟩ := HD6.out.facts; have hsz5 := HD5.out.size; have hn0 : ¬ w5.heap.size = w.heap.size := (by omega); have hn1 : ¬ w.heap.size = w5.heap.size := (by omega); have HT6 := Aside0.mk (qb HT5.out (.cells #[.string E1, .string E2] 23)); obtain ⟨g0, g1, g2, g3, _, _, _, _⟩ := new4 HT6.out)))
    refine bodyPost_ret (zc rfl _ _ (w.heap.size + 1) 27 _ (0, 0) _ rfl (HD6.out.put _ _ _ _).1 Tryz.underlying27 rfl (by kernel_rfl)) rfl ?_
    exact ⟨_, _, rfl, vd HK25.out HD6.out.t hC _ _ _ _, vd HK35.out HD6.out.t hI _ _ _ _, (HD6.out.put _ _ _ _).2⟩
theorem qX.calls (k : Nat) (a0_0 : ByteArray) (a0_1 : ByteArray) (r1 : ByteArray) (r2 : Int) (r3 : List S49) (r4 : List Int) (r5 : Int) (w : World) (h : qX.f k a0_0 a0_1 = some (r1, r2, r3, r4, r5)) :
 Calls Tryz.prog 5 #[.agg #[.string a0_0, .string a0_1]] w fun e w' => ∃ v2_ v3_ : Value, e = .returned (.tuple #[.agg #[.string r1, .int .i64 r2, v2_, v3_], .int .i64 r5]) ∧ Kd.R k49 49 w' w.heap.size (fun _ => True) v2_ r3 ∧ Kd.R (Kd.int .i64) 3 w' w.heap.size (fun _ => True) v3_ r4 ∧ Below w.heap.size w w' := qX.run k a0_0 a0_1 (r1, r2, r3, r4, r5) w h
end Go.Proofs.YtggbhdcgfnjogaaGreatDoor.PPc

