/- What the law StorePrints itself does: it copies the replies for the document, prints both, compares. Conditions: the replies are small. -/
import Derived.Test.YtggbhdcgfnjogaaDoorPSpx0
import Derived.Outline
import Derived.Deep.DeepMust
import Derived.Deep.DeepFit
import Derived.RegionDies
import Derived.Maps.AppendAt
import Derived.Deep.QuietTactic
import Derived.BigQuiet
import Derived.Test.YtggbhdcgfnjogaaDoorShelfB
import Derived.Test.YtggbhdcgfnjogaaDoorPSpx6
import Derived.Test.YtggbhdcgfnjogaaDoorPSpx7
import Derived.Deep.RegionLaw
import Derived.Lib.Zigzag
import Derived.Lib.SplitLaws
import Derived.Laws.EntriesVeiled
import Derived.Laws.Rows
import Derived.Deep.RegionWith
import Derived.Deep.RegionHeld3
import Derived.Lib.ItoaLen
import Derived.Deep.CutBlock
import Derived.Lib.OthersKept
namespace Go.Proofs.YtggbhdcgfnjogaaDoor.PSp
open Go.RowKit Go.Proofs.YtggbhdcgfnjogaaDoorW.PrintWords Go.Proofs.YtggbhdcgfnjogaaDoorW.PrintLast Go.Proofs.YtggbhdcgfnjogaaDoorW.PrintMore
attribute [local go_sem] max2_int min2_int max_two min_two max_three min_three max_four min_four
set_option linter.unusedVariables false
set_option linter.unusedSimpArgs false
theorem blk_below' {w W : World} {g : Nat} {o : Obj} (h : w.heap[g]? = some o) (hb : Below w.heap.size w W) : W.heap[g]? = some o := (hb.block g (blk_lt h)).trans h
/-- What holds in a round: the reply's box, the document's reply that is being filled, its rows. -/
structure QS (wr W : World) (c1 c2 : Array Value) (e5 e6 e10 : Value) (ns : List ByteArray) (rws : List (List S84)) (nums : List Int) : Prop where
  b1 : W.heap[wr.heap.size]? = some (.cells c1 32 (0, 0))
  b2 : W.heap[wr.heap.size + 1]? = some (.cells c2 36 (0, 0))
  be : Below wr.heap.size wr W
  r5 : Kd.string.R 9 W wr.heap.size (fun _ => True) e5 ns
  r6 : (Kd.slice 84 k84).R 38 W wr.heap.size (fun _ => True) e6 rws
  r10 : (Kd.int .i64).R 3 W wr.heap.size (fun _ => True) e10 nums
section
variable {wr W W1 : World} {c1 c2 : Array Value} {e5 e6 e10 : Value} {ns : List ByteArray} {rws : List (List S84)} {nums : List Int}
theorem QS.size (h : QS wr W c1 c2 e5 e6 e10 ns rws nums) : wr.heap.size + 2 ≤ W.heap.size := by have := blk_lt h.b2; omega
theorem QS.below (h : QS wr W c1 c2 e5 e6 e10 ns rws nums) (hb : Below W.heap.size W W1) : QS wr W1 c1 c2 e5 e6 e10 ns rws nums :=
  ⟨blk_below' h.b1 hb, blk_below' h.b2 hb, below_then h.be (by have := h.size; omega) hb, Kd.R_below h.r5 hb, Kd.R_below h.r6 hb, Kd.R_below h.r10 hb⟩
theorem below_none (hg : W.grownBy W1 none) : Below W.heap.size W W1 := (Below.refl W.heap.size W).grown hg (Nat.le_refl _) (fun _ h => by cases h)
theorem QS.store (h : QS wr W c1 c2 e5 e6 e10 ns rws nums) (j : Nat) (v : Value) : QS wr (W.setCell ⟨wr.heap.size + 1, j, none⟩ v) c1 (c2.setIfInBounds j v) e5 e6 e10 ns rws nums :=
  ⟨blk_far h.b1 (by show wr.heap.size ≠ wr.heap.size + 1; omega) v, blk_set h.b2 j v, below_set h.be (by omega), Kd.R_set h.r5 h.b2 (by decide) j v, Kd.R_set h.r6 h.b2 (by decide) j v, Kd.R_set h.r10 h.b2 (by decide) j v⟩
theorem QS.grown6 {e6' : Value} {rws' : List (List S84)} (h : QS wr W c1 c2 e5 e6 e10 ns rws nums) (hg : W.grownBy W1 e6.ownBlock) (hb : Below wr.heap.size wr W1) (hr : (Kd.slice 84 k84).R 38 W1 wr.heap.size (fun _ => True) e6' rws') : QS wr W1 c1 c2 e5 e6' e10 ns rws' nums :=
  ⟨blk_grown h.b1 hg (Kd.R_ne h.r6 h.b1 (by decide)), blk_grown h.b2 hg (Kd.R_ne h.r6 h.b2 (by decide)), hb, Kd.R_over h.r5 h.r6 (by decide) hg, hr, Kd.R_over h.r10 h.r6 (by decide) hg⟩
end
def rep77 : S32 := ⟨77, 77, 0, 0, ⟨0, [], [], 0, 0, 0⟩, []⟩
theorem rep77_K (w : World) : k32.K w rep77 [.int .i64 77, .int .i64 77, .int .i64 0, .int .i64 0, .int .i64 0, .slice none 0 0, .slice none 0 0, .int .i64 0, .int .u64 0, .int .i64 0, .slice none 0 0] :=
  k32_mk w rep77 (c5 := 0) (Nat.le_refl 0) (Kd.C_nil _ _) (c6 := 0) (Nat.le_refl 0) (Kd.C_nil _ _) (c10 := 0) (Nat.le_refl 0) (Kd.C_nil _ _)
theorem fixed_take {α : Type} {d : Kd α} {w0 w : World} {A : Option Addr} {xs ys : List α} (hb : Below w0.heap.size w0 w) (h : (Kd.fixed d w0).C w A (xs ++ ys).length (xs ++ ys)) : d.C w A xs.length xs := by
  have h1 := Kd.C_take (m := xs.length) h (by simp)
  rw [List.take_left] at h1
  exact ReadsRow.imp_ h1 (Below.refl _ _) (fun _ _ hp => d.K_below hb hp)
theorem cells77 {w0 w : World} {A : Option Addr} {xs : List S32} (h : (Kd.fixed k32 w0).C w A (xs ++ [rep77]).length (xs ++ [rep77])) :
    ∃ ad, A = some ad ∧ w.cell? (ad.add (xs.length * 11)) = some (.int .i64 77) ∧ w.cell? ⟨(ad.add (xs.length * 11)).block, (ad.add (xs.length * 11)).off + 1, none⟩ = some (.int .i64 77) := by
  obtain ⟨ad, c, e, hl, hK, hc⟩ := Kd.C_get h rep77 (xs.length : Int) (by omega) (by simp only [List.length_append, List.length_singleton]; omega)
  have hg : (xs ++ [rep77]).getD (xs.length : Int).toNat rep77 = rep77 := by rw [Int.toNat_natCast]; simp
  rw [hg] at hK
  obtain ⟨_, _, _, _, _, _, rfl, _⟩ := k32_open (w := w0) hK
  refine ⟨ad, e, ?_, ?_⟩
  · have := hc 0 _ rfl
    rw [Int.toNat_natCast] at this
    exact this
  · have := hc 1 _ rfl
    rw [Int.toNat_natCast] at this
    have e1 : (Kd.fixed k32 w0).sz = 11 := rfl
    rw [e1, add_field _ _ _ (by decide)] at this
    exact this
theorem refPrint_calls (K : Nat) (A : Option Addr) (c : Nat) (rs : List S32) (r : ByteArray) (w : World) (hC : Kd.C k36 w A rs.length (rs.map toRef)) (hc : rs.length ≤ c) (hK : strataref17_Print.f K (rs.map toRef) = some r) :
    Calls Tryd.prog 9 #[.slice A rs.length c] w fun e w' => e = .returned (.string r) ∧ Below w.heap.size w w' := by
  have h := strataref17_Print.calls K A c (rs.map toRef) r w (by rw [List.length_map]; exact hC) (by rw [List.length_map]; exact hc) hK
  rw [List.length_map] at h
  exact h
structure C11 (W : World) (g : Nat) (a0 a1 a2 a3 a4 a5 a6 a7 a8 a9 a10 : Value) : Prop where
  c0 : W.cell? ⟨g, 0, none⟩ = some a0
  c1 : W.cell? ⟨g, 1, none⟩ = some a1
  c2 : W.cell? ⟨g, 2, none⟩ = some a2
  c3 : W.cell? ⟨g, 3, none⟩ = some a3
  c4 : W.cell? ⟨g, 4, none⟩ = some a4
  c5 : W.cell? ⟨g, 5, none⟩ = some a5
  c6 : W.cell? ⟨g, 6, none⟩ = some a6
  c7 : W.cell? ⟨g, 7, none⟩ = some a7
  c8 : W.cell? ⟨g, 8, none⟩ = some a8
  c9 : W.cell? ⟨g, 9, none⟩ = some a9
  c10 : W.cell? ⟨g, 10, none⟩ = some a10
theorem c11 {W : World} {g t : Nat} {a0 a1 a2 a3 a4 a5 a6 a7 a8 a9 a10 : Value} (h : W.heap[g]? = some (.cells #[a0, a1, a2, a3, a4, a5, a6, a7, a8, a9, a10] t (0, 0))) : C11 W g a0 a1 a2 a3 a4 a5 a6 a7 a8 a9 a10 :=
  ⟨(blk_cell h 0).trans rfl, (blk_cell h 1).trans rfl, (blk_cell h 2).trans rfl, (blk_cell h 3).trans rfl, (blk_cell h 4).trans rfl, (blk_cell h 5).trans rfl, (blk_cell h 6).trans rfl, (blk_cell h 7).trans rfl, (blk_cell h 8).trans rfl, (blk_cell h 9).trans rfl, (blk_cell h 10).trans rfl⟩
set_option maxHeartbeats 8000000 in
set_option maxRecDepth 100000 in
theorem law_calls (w : World) (A : Option Addr) (n c0 : Nat) (rs : List S32) (K : Nat) (hn : n = rs.length) (hc : n ≤ c0) (hA : Kd.C k32 w A n rs) (hG : GP w) (hO : okAll rs)
    (hK : strataref17_Print.f K (rs.map toRef) = some (str (printL rs))) :
    Calls Tryd.prog 3 #[.slice A n c0] w fun e w' => e = .returned (.bool true) ∧ Below w.heap.size w w' := by
  have HA := Aside0.mk hA
  have HG := Aside0.mk hG
  have HO := Aside0.mk hO
  have HK := Aside0.mk hK
  have HN := Aside0.mk hn
  have HNn : n ≤ 1000000000 := hn ▸ hO.1
  have HC := Aside0.mk hc
  clear hA hG hO hK hn hc
  go_enter Tryd.func3, Tryd.ntmps3
  go_wp2
  go_loopw [3, 4] (fun v3 v4 wr => ∃ (k : Nat), k ≤ n ∧ v4 = .int .i64 (k : Int) ∧ Aside0 (k36.R 36 wr w.heap.size (fun _ => True) v3 ((rs.take k).map toRef)) ∧ Aside0 (Below w.heap.size w wr)) (fun _ v4 _ => n - (intOf v4).toNat)
  case atStart =>
    exact ⟨0, Nat.zero_le _, rfl, ⟨Kd.R_nil _ _ _ _ _⟩, ⟨Below.refl _ _⟩⟩
  case round =>
    obtain ⟨k, hk, rfl, HR3, HB⟩ := hrel
    obtain ⟨wo, rfl⟩ : ∃ wo : World, wo = wr := ⟨_, rfl⟩
    by_cases hlt : k < n
    · have d1 : decide ((k : Int) < (n : Int)) = true := decide_eq_true (by omega)
      have d9 : (k : Int) < (n : Int) := by omega
      obtain ⟨ad, A5, c5, A6, c6, A10, c10, e2, g0, g1, g2, g3, g4, g5, g6, g7, g8, g9, g10, l5, C5, l6, C6, l10, C10⟩ := at_T32 HA.out (k : Int) (by omega) (by omega)
      cases e2
      have hlen : k < rs.length := HN.out ▸ hlt
      simp only [Int.toNat_natCast] at g0 g1 g2 g3 g4 g5 g6 g7 g8 g9 g10
      have HM := Aside0.mk (rdR_lt rs k hlen ▸ HO.out.2.1 rs[k] (List.getElem_mem hlen))
      have HX : Aside0 ((rs.take (k + 1)).map toRef = (rs.take k).map toRef ++ [toRef (rd_T32 rs (k : Int))]) := ⟨by rw [List.take_succ_eq_append_getElem hlen, List.map_append, rdR_lt rs k hlen]; rfl⟩
      generalize rd_T32 rs (k : Int) = x at *
      obtain ⟨cmd, kind, who, code, ⟨rc, ns, rws, cn, st, en⟩, nums⟩ := x
      dsimp only at g0 g1 g2 g3 g4 g5 g6 g7 g8 g9 g10 C5 C6 C10
      have B10 : nums.length ≤ 1000000000 := HM.out.nl
      have B5 : ns.length ≤ 1000000000 := HM.out.res.nl
      have B6 : rws.length ≤ 1000000000 := HM.out.res.rl
      have HC5 := Aside0.mk (Kd.C_below C5 HB.out)
      have HC6 := Aside0.mk (Kd.C_below C6 HB.out)
      have HC10 := Aside0.mk (Kd.C_below C10 HB.out)
      clear l5 l6 l10 C5 C6 C10 hlen
      replace g0 := (HB.out.cell (World.block_lt_of_cell? w _ g0)).trans g0
      replace g1 := (HB.out.cell (World.block_lt_of_cell? w _ g1)).trans g1
      replace g2 := (HB.out.cell (World.block_lt_of_cell? w _ g2)).trans g2
      replace g3 := (HB.out.cell (World.block_lt_of_cell? w _ g3)).trans g3
      replace g4 := (HB.out.cell (World.block_lt_of_cell? w _ g4)).trans g4
      replace g5 := (HB.out.cell (World.block_lt_of_cell? w _ g5)).trans g5
      replace g6 := (HB.out.cell (World.block_lt_of_cell? w _ g6)).trans g6
      replace g7 := (HB.out.cell (World.block_lt_of_cell? w _ g7)).trans g7
      replace g8 := (HB.out.cell (World.block_lt_of_cell? w _ g8)).trans g8
      replace g9 := (HB.out.cell (World.block_lt_of_cell? w _ g9)).trans g9
      replace g10 := (HB.out.cell (World.block_lt_of_cell? w _ g10)).trans g10
      go_upto_region 11 with (go_at_call 7; refine (stratalaw17_num.calls code code _ rfl).mono ?_; rintro e w1 ⟨rfl, ⟨nq, rfl⟩⟩)
      have HQ : Aside0 (QS wo (((wo.alloc (.cells #[.int .i64 cmd, .int .i64 kind, .int .i64 who, .int .i64 code, .int .i64 rc, .slice A5 ns.length c5, .slice A6 rws.length c6, .int .i64 cn, .int .u64 st, .int .i64 en, .slice A10 nums.length c10] 32)).alloc (.cells #[.int .i64 cmd, .int .i64 kind, .int .i64 who, .int .i64 0, .int .i64 0, .slice none 0 0, .slice none 0 0, .int .i64 0, .int .u64 0, .int .i64 0, .slice none 0 0] 36)).drewN nq)
          #[.int .i64 cmd, .int .i64 kind, .int .i64 who, .int .i64 code, .int .i64 rc, .slice A5 ns.length c5, .slice A6 rws.length c6, .int .i64 cn, .int .u64 st, .int .i64 en, .slice A10 nums.length c10] #[.int .i64 cmd, .int .i64 kind, .int .i64 who, .int .i64 0, .int .i64 0, .slice none 0 0, .slice none 0 0, .int .i64 0, .int .u64 0, .int .i64 0, .slice none 0 0] (.slice none 0 0) (.slice none 0 0) (.slice none 0 0) [] [] []) := by
        have k1 := blk_new wo (.cells #[.int .i64 cmd, .int .i64 kind, .int .i64 who, .int .i64 code, .int .i64 rc, .slice A5 ns.length c5, .slice A6 rws.length c6, .int .i64 cn, .int .u64 st, .int .i64 en, .slice A10 nums.length c10] 32)
        have k2 := blk_new (wo.alloc (.cells #[.int .i64 cmd, .int .i64 kind, .int .i64 who, .int .i64 code, .int .i64 rc, .slice A5 ns.length c5, .slice A6 rws.length c6, .int .i64 cn, .int .u64 st, .int .i64 en, .slice A10 nums.length c10] 32)) (.cells #[.int .i64 cmd, .int .i64 kind, .int .i64 who, .int .i64 0, .int .i64 0, .slice none 0 0, .slice none 0 0, .int .i64 0, .int .u64 0, .int .i64 0, .slice none 0 0] 36)
        rw [World.size_alloc] at k2
        exact ⟨⟨blk_alloc k1 _, k2, pw_below_drewN (below_alloc (below_alloc (Below.refl _ _) _) _) nq, Kd.R_nil _ _ _ _ _, Kd.R_nil _ _ _ _ _, Kd.R_nil _ _ _ _ _⟩⟩
      replace HQ := Aside0.mk (HQ.out.store 3 (.int .i64 code))
      generalize (((wo.alloc (.cells #[.int .i64 cmd, .int .i64 kind, .int .i64 who, .int .i64 code, .int .i64 rc, .slice A5 ns.length c5, .slice A6 rws.length c6, .int .i64 cn, .int .u64 st, .int .i64 en, .slice A10 nums.length c10] 32)).alloc (.cells #[.int .i64 cmd, .int .i64 kind, .int .i64 who, .int .i64 0, .int .i64 0, .slice none 0 0, .slice none 0 0, .int .i64 0, .int .u64 0, .int .i64 0, .slice none 0 0] 36)).drewN nq).setCell ⟨wo.heap.size + 1, 3, none⟩ (.int .i64 code) = W at *
      clear g0 g1 g2 g3 g4 g5 g6 g7 g8 g9 g10
      replace HQ : Aside0 (QS wo W #[.int .i64 cmd, .int .i64 kind, .int .i64 who, .int .i64 code, .int .i64 rc, .slice A5 ns.length c5, .slice A6 rws.length c6, .int .i64 cn, .int .u64 st, .int .i64 en, .slice A10 nums.length c10] #[.int .i64 cmd, .int .i64 kind, .int .i64 who, .int .i64 code, .int .i64 0, .slice none 0 0, .slice none 0 0, .int .i64 0, .int .u64 0, .int .i64 0, .slice none 0 0] (.slice none 0 0) (.slice none 0 0) (.slice none 0 0) [] [] []) := HQ
      obtain ⟨s0, s1, s2, s3, s4, s5, s6, s7, s8, s9, s10⟩ := c11 HQ.out.b1
      obtain ⟨q0, q1, q2, q3, q4, q5, q6, q7, q8, q9, q10⟩ := c11 HQ.out.b2
      have fz := blk_frozen HQ.out.b2 10
      go_upto_region 12 with (at_builtin; go_must (refine Kd.R_append_rows (Kd.int .i64) (Rr := (Kd.int .i64).K W) (w0 := wo) wo.heap.size rfl (.tmp 36) (.tmp 38) 30 3 (.int .i64 0) 8 rfl Tryd.underlying30 (by kernel_rfl) rfl (by decide) (by decide) (.slice none 0 0) [] nums A10 nums.length c10 (fun _ => True) (fun _ => True) rfl rfl (Kd.R_nil _ _ _ _ _) (Kd.C_below HC10.out HQ.out.be) (fun _ _ h => h) (fun _ _ => ⟨trivial, fun h => by cases h⟩) (fun _ _ => trivial) HQ.out.be (by have := HQ.out.size; omega) (by simp only [List.length_nil]; omega) ?_; intro v10 w1 ho hb hg hat; obtain ⟨D10, d10, rfl⟩ := Kd.R_slice ho; have HQ1 : Aside0 (QS wo w1 _ _ (.slice none 0 0) (.slice none 0 0) (.slice D10 ([] ++ nums).length d10) [] [] nums) := ⟨{ HQ.out.below (below_none hg) with r10 := ho }⟩; clear ho hb hg hat s0 s1 s2 s3 s4 s5 s6 s7 s8 s9 s10 q0 q1 q2 q3 q4 q5 q6 q7 q8 q9 q10 fz; obtain ⟨s0, s1, s2, s3, s4, s5, s6, s7, s8, s9, s10⟩ := c11 HQ1.out.b1; obtain ⟨q0, q1, q2, q3, q4, q5, q6, q7, q8, q9, q10⟩ := c11 HQ1.out.b2; have fz := blk_frozen HQ1.out.b2 10))
      clear s0 s1 s2 s3 s4 s5 s6 s7 s8 s9 s10 q0 q1 q2 q3 q4 q5 q6 q7 q8 q9 q10 fz
      replace HQ := Aside0.mk (HQ1.out.store 10 (.slice D10 nums.length d10))
      clear HQ1
      generalize w1.setCell ⟨wo.heap.size + 1, 10, none⟩ (.slice D10 nums.length d10) = W1 at *
      replace HQ : Aside0 (QS wo W1 #[.int .i64 cmd, .int .i64 kind, .int .i64 who, .int .i64 code, .int .i64 rc, .slice A5 ns.length c5, .slice A6 rws.length c6, .int .i64 cn, .int .u64 st, .int .i64 en, .slice A10 nums.length c10] #[.int .i64 cmd, .int .i64 kind, .int .i64 who, .int .i64 code, .int .i64 0, .slice none 0 0, .slice none 0 0, .int .i64 0, .int .u64 0, .int .i64 0, .slice D10 nums.length d10] (.slice none 0 0) (.slice none 0 0) (.slice D10 nums.length d10) [] [] nums) := HQ
      obtain ⟨s0, s1, s2, s3, s4, s5, s6, s7, s8, s9, s10⟩ := c11 HQ.out.b1
      obtain ⟨q0, q1, q2, q3, q4, q5, q6, q7, q8, q9, q10⟩ := c11 HQ.out.b2
      have fz := blk_frozen HQ.out.b2 4
      go_upto_region 13 with (go_at_call 7; refine (stratalaw17_num.calls rc rc _ rfl).mono ?_; rintro e w2 ⟨rfl, ⟨nq2, rfl⟩⟩)
      clear s0 s1 s2 s3 s4 s5 s6 s7 s8 s9 s10 q0 q1 q2 q3 q4 q5 q6 q7 q8 q9 q10 fz
      replace HQ := Aside0.mk ((HQ.out.below (pw_below_drewN (Below.refl _ _) nq2)).store 4 (.int .i64 rc))
      generalize (W1.drewN nq2).setCell ⟨wo.heap.size + 1, 4, none⟩ (.int .i64 rc) = W2 at *
      replace HQ : Aside0 (QS wo W2 #[.int .i64 cmd, .int .i64 kind, .int .i64 who, .int .i64 code, .int .i64 rc, .slice A5 ns.length c5, .slice A6 rws.length c6, .int .i64 cn, .int .u64 st, .int .i64 en, .slice A10 nums.length c10] #[.int .i64 cmd, .int .i64 kind, .int .i64 who, .int .i64 code, .int .i64 rc, .slice none 0 0, .slice none 0 0, .int .i64 0, .int .u64 0, .int .i64 0, .slice D10 nums.length d10] (.slice none 0 0) (.slice none 0 0) (.slice D10 nums.length d10) [] [] nums) := HQ
      obtain ⟨s0, s1, s2, s3, s4, s5, s6, s7, s8, s9, s10⟩ := c11 HQ.out.b1
      obtain ⟨q0, q1, q2, q3, q4, q5, q6, q7, q8, q9, q10⟩ := c11 HQ.out.b2
      have fz := blk_frozen HQ.out.b2 5
      go_upto_region 14 with (at_builtin; go_must (refine Kd.R_append_rows Kd.string (Rr := Kd.string.K W2) (w0 := wo) wo.heap.size rfl (.tmp 49) (.tmp 52) 25 9 (.string ⟨#[]⟩) 16 rfl Tryd.underlying25 (by kernel_rfl) rfl (by decide) (by decide) (.slice none 0 0) [] ns A5 ns.length c5 (fun _ => True) (fun _ => True) rfl rfl (Kd.R_nil _ _ _ _ _) (Kd.C_below HC5.out HQ.out.be) (fun _ _ h => h) (fun _ _ => ⟨trivial, fun h => by cases h⟩) (fun _ _ => trivial) HQ.out.be (by have := HQ.out.size; omega) (by simp only [List.length_nil]; omega) ?_; intro v5 w3 ho hb hg hat; obtain ⟨D5, d5, rfl⟩ := Kd.R_slice ho; have HQ1 : Aside0 (QS wo w3 _ _ (.slice D5 ([] ++ ns).length d5) (.slice none 0 0) (.slice D10 nums.length d10) ns [] nums) := ⟨{ HQ.out.below (below_none hg) with r5 := ho }⟩; clear ho hb hg hat s0 s1 s2 s3 s4 s5 s6 s7 s8 s9 s10 q0 q1 q2 q3 q4 q5 q6 q7 q8 q9 q10 fz; obtain ⟨s0, s1, s2, s3, s4, s5, s6, s7, s8, s9, s10⟩ := c11 HQ1.out.b1; obtain ⟨q0, q1, q2, q3, q4, q5, q6, q7, q8, q9, q10⟩ := c11 HQ1.out.b2; have fz := blk_frozen HQ1.out.b2 5))
      clear s0 s1 s2 s3 s4 s5 s6 s7 s8 s9 s10 q0 q1 q2 q3 q4 q5 q6 q7 q8 q9 q10 fz
      replace HQ := Aside0.mk (HQ1.out.store 5 (.slice D5 ns.length d5))
      clear HQ1
      generalize w3.setCell ⟨wo.heap.size + 1, 5, none⟩ (.slice D5 ns.length d5) = W3 at *
      replace HQ : Aside0 (QS wo W3 #[.int .i64 cmd, .int .i64 kind, .int .i64 who, .int .i64 code, .int .i64 rc, .slice A5 ns.length c5, .slice A6 rws.length c6, .int .i64 cn, .int .u64 st, .int .i64 en, .slice A10 nums.length c10] #[.int .i64 cmd, .int .i64 kind, .int .i64 who, .int .i64 code, .int .i64 rc, .slice D5 ns.length d5, .slice none 0 0, .int .i64 0, .int .u64 0, .int .i64 0, .slice D10 nums.length d10] (.slice D5 ns.length d5) (.slice none 0 0) (.slice D10 nums.length d10) ns [] nums) := HQ
      go_wp2
      go_loopw [7] (fun v7 wq => ∃ (j : Nat) (D6 : Option Addr) (d6 : Nat), j ≤ rws.length ∧ v7 = .int .i64 (j : Int) ∧ Aside0 (QS wo wq #[.int .i64 cmd, .int .i64 kind, .int .i64 who, .int .i64 code, .int .i64 rc, .slice A5 ns.length c5, .slice A6 rws.length c6, .int .i64 cn, .int .u64 st, .int .i64 en, .slice A10 nums.length c10] #[.int .i64 cmd, .int .i64 kind, .int .i64 who, .int .i64 code, .int .i64 rc, .slice D5 ns.length d5, .slice D6 j d6, .int .i64 0, .int .u64 0, .int .i64 0, .slice D10 nums.length d10] (.slice D5 ns.length d5) (.slice D6 j d6) (.slice D10 nums.length d10) ns (rws.take j) nums)) (fun v7 _ => rws.length - (intOf v7).toNat)
      case atStart => exact ⟨0, none, 0, Nat.zero_le _, rfl, HQ⟩
      case round =>
        clear HQ
        obtain ⟨j, D6, d6, hj, rfl, HQ⟩ := hrel
        obtain ⟨s0, s1, s2, s3, s4, s5, s6, s7, s8, s9, s10⟩ := c11 HQ.out.b1
        obtain ⟨q0, q1, q2, q3, q4, q5, q6, q7, q8, q9, q10⟩ := c11 HQ.out.b2
        by_cases hjt : j < rws.length
        · have d2 : decide ((j : Int) < (rws.length : Int)) = true := decide_eq_true (by omega)
          obtain ⟨ad6, A8, c8, ea, h0, l8, C8⟩ := at_L4 HC6.out (j : Int) (by omega) (by omega)
          cases ea
          simp only [Int.toNat_natCast] at h0
          replace h0 := (HQ.out.be.cell (World.block_lt_of_cell? wo _ h0)).trans h0
          have d9j : (j : Int) < (rws.length : Int) := by omega
          have HX6 : Aside0 (rws.take (j + 1) = rws.take j ++ [rd_L4 rws (j : Int)]) := ⟨by rw [List.take_succ_eq_append_getElem hjt, rdL_lt rws j hjt]⟩
          have B8 := (rdL_lt rws j hjt ▸ (HM.out.res.rq rws[j] (List.getElem_mem hjt)).1 : (rd_L4 rws (j : Int)).length ≤ 1000000000)
          generalize rd_L4 rws (j : Int) = row at *
          have HC8 := Aside0.mk (Kd.C_below C8 HQ.out.be)
          have HL8 := Aside0.mk l8
          clear C8 l8
          go_upto_region 18 with (fail)
          go_upto_region 19 with (at_builtin; go_must (refine Kd.R_append_rows k84 (Rr := k84.K wr) (w0 := wr) wr.heap.size rfl (.tmp 64) (.tmp 70) 38 84 (.agg #[.int .i64 0, .int .i64 0, .string ⟨#[]⟩]) 32 rfl Tryd.underlying38 (by kernel_rfl) rfl (by decide) (by decide) (.slice none 0 0) [] row A8 row.length c8 (fun _ => True) (fun _ => True) rfl rfl (Kd.R_nil _ _ _ _ _) HC8.out (fun _ _ h => h) (fun _ _ => ⟨trivial, fun h => by cases h⟩) (fun _ _ => trivial) (Below.refl _ _) (Nat.le_refl _) (by simp only [List.length_nil]; omega) ?_; intro v8 w4 ho hb hg hat; obtain ⟨D8, d8, rfl⟩ := Kd.R_slice ho; have HQ1 := Aside0.mk (HQ.out.below hb); have HR8 := Aside0.mk ho; clear ho hb hg hat s0 s1 s2 s3 s4 s5 s6 s7 s8 s9 s10 q0 q1 q2 q3 q4 q5 q6 q7 q8 q9 q10 h0))
          have HRr := Aside0.mk (Kd.R_lt HQ.out.r6)
          have HSz := Aside0.mk HQ.out.size
          have HP8 : Aside0 ((Kd.slice 84 k84).M w4 wo.heap.size (fun k => wr.heap.size ≤ k) row [.slice D8 row.length d8]) := ⟨⟨_, rfl, Kd.R_lower (Kd.R_mono (Kd.R_bound HR8.out) (fun k hk => hk.2.1)) (by have := HSz.out; omega)⟩⟩
          obtain ⟨q0, q1, q2, q3, q4, q5, q6, q7, q8, q9, q10⟩ := c11 HQ1.out.b2
          have hjl : (rws.take j).length = j := by rw [List.length_take]; omega
          have HJL := Aside0.mk hjl
          clear hjl
          go_wp2_with (at_builtin; go_must (refine Kd.R_append (Kd.slice 84 k84) (w0 := wo) wo.heap.size rfl (.tmp 74) (.tmp 76) 26 38 (.slice none 0 0) 24 rfl Tryd.underlying26 (by kernel_rfl) rfl (by decide) (by decide) (.slice D6 j d6) (rws.take j) row [.slice D8 row.length d8] (fun _ => True) (fun k => wr.heap.size ≤ k) rfl rfl HP8.out (fun k hk => ⟨trivial, fun he => by have := HRr.out k he.symm; omega⟩) (fun _ _ => trivial) HQ1.out.r6 HQ1.out.be (by have := HQ1.out.size; omega) (by rw [HJL.out]; omega) ?_; intro v6 w5 ho hb hg hat; obtain ⟨E6, f6, rfl⟩ := Kd.R_slice ho; have HQ2 := Aside0.mk (HQ1.out.grown6 hg hb ho); clear ho hb hg hat q0 q1 q2 q3 q4 q5 q6 q7 q8 q9 q10; obtain ⟨q0, q1, q2, q3, q4, q5, q6, q7, q8, q9, q10⟩ := c11 HQ2.out.b2; have fz := blk_frozen HQ2.out.b2 6))
          go_roundw
          case rel =>
            refine ⟨j + 1, E6, f6, by omega, by go_num, ?_⟩
            have h1 := HQ2.out.store 6 (.slice E6 (j + 1) f6)
            rw [List.length_append, HJL.out, List.length_singleton, ← HX6.out] at h1
            exact ⟨h1⟩
          case measure => simp [intOf]; omega
        · have d2 : decide ((j : Int) < (rws.length : Int)) = false := decide_eq_false (by omega)
          have fz7 := blk_frozen HQ.out.b2 7
          have fz8 := blk_frozen HQ.out.b2 8
          have fz9 := blk_frozen HQ.out.b2 9
          have ej : rws.take j = rws := List.take_of_length_le (by omega)
          obtain rfl : j = rws.length := by omega
          rw [ej] at HQ
          clear ej
          go_upto_region 23 with (fail)
          have HQ3 := Aside0.mk (((HQ.out.store 7 (.int .i64 cn)).store 8 (.int .u64 st)).store 9 (.int .i64 en))
          clear fz7 fz8 fz9 s0 s1 s2 s3 s4 s5 s6 s7 s8 s9 s10 q0 q1 q2 q3 q4 q5 q6 q7 q8 q9 q10 HQ
          generalize ((wr.setCell ⟨wo.heap.size + 1, 7, none⟩ (.int .i64 cn)).setCell ⟨wo.heap.size + 1, 8, none⟩ (.int .u64 st)).setCell ⟨wo.heap.size + 1, 9, none⟩ (.int .i64 en) = W4 at *
          replace HQ3 : Aside0 (QS wo W4 #[.int .i64 cmd, .int .i64 kind, .int .i64 who, .int .i64 code, .int .i64 rc, .slice A5 ns.length c5, .slice A6 rws.length c6, .int .i64 cn, .int .u64 st, .int .i64 en, .slice A10 nums.length c10] #[.int .i64 cmd, .int .i64 kind, .int .i64 who, .int .i64 code, .int .i64 rc, .slice D5 ns.length d5, .slice D6 rws.length d6, .int .i64 cn, .int .u64 st, .int .i64 en, .slice D10 nums.length d10] (.slice D5 ns.length d5) (.slice D6 rws.length d6) (.slice D10 nums.length d10) ns rws nums) := HQ3
          obtain ⟨q0, q1, q2, q3, q4, q5, q6, q7, q8, q9, q10⟩ := c11 HQ3.out.b2
          have HPq : Aside0 (k36.M W4 w.heap.size (fun k => wo.heap.size ≤ k) (toRef ⟨cmd, kind, who, code, ⟨rc, ns, rws, cn, st, en⟩, nums⟩) [.int .i64 cmd, .int .i64 kind, .int .i64 who, .int .i64 code, .int .i64 rc, .slice D5 ns.length d5, .slice D6 rws.length d6, .int .i64 cn, .int .u64 st, .int .i64 en, .slice D10 nums.length d10]) :=
            ⟨k36_mkM W4 w.heap.size _ (toRef ⟨cmd, kind, who, code, ⟨rc, ns, rws, cn, st, en⟩, nums⟩) (Kd.R_lower (Kd.R_mono (Kd.R_bound HQ3.out.r5) (fun k hk => hk.2.1)) HB.out.size) (Kd.R_lower (Kd.R_mono (Kd.R_bound HQ3.out.r6) (fun k hk => hk.2.1)) HB.out.size) (Kd.R_lower (Kd.R_mono (Kd.R_bound HQ3.out.r10) (fun k hk => hk.2.1)) HB.out.size)⟩
          have HRr := Aside0.mk (Kd.R_lt HR3.out)
          have HR3' := Aside0.mk (Kd.R_below HR3.out HQ3.out.be)
          have HB' := Aside0.mk (below_then HB.out HB.out.size HQ3.out.be)
          have HZ := Aside0.mk HB'.out.size
          have hkl : ((rs.take k).map toRef).length = k := by rw [List.length_map, List.length_take]; have := HN.out; omega
          have HKL := Aside0.mk hkl
          clear hkl
          go_wp2_with (at_builtin; go_must (refine Kd.R_append k36 (w0 := w) w.heap.size rfl (.tmp 95) (.tmp 97) 23 36 (.agg #[.int .i64 0, .int .i64 0, .int .i64 0, .int .i64 0, .int .i64 0, .slice none 0 0, .slice none 0 0, .int .i64 0, .int .u64 0, .int .i64 0, .slice none 0 0]) 136 rfl Tryd.underlying23 (by kernel_rfl) (by kernel_rfl) (by decide) (by decide) _ ((rs.take k).map toRef) _ _ (fun _ => True) (fun k => wo.heap.size ≤ k) rfl rfl HPq.out (fun k hk => ⟨trivial, fun he => by have := HRr.out k he.symm; omega⟩) (fun _ _ => trivial) HR3'.out HB'.out HZ.out (by rw [HKL.out]; omega) ?_; intro v3 w5 ho hb hg hat; have HQ4 := Aside0.mk ho; have HB4 := Aside0.mk hb; clear ho hb hg hat))
          go_roundw
          case rel => exact ⟨k + 1, by omega, by go_num, ⟨by rw [HX.out]; exact HQ4.out⟩, HB4⟩
          case measure => simp [intOf]; omega
    · have d1 : decide ((k : Int) < (n : Int)) = false := decide_eq_false (by omega)
      obtain rfl : k = n := by omega
      obtain ⟨hkn⟩ := HN
      subst hkn
      have ek : rs.take rs.length = rs := List.take_of_length_le (Nat.le_refl _)
      rw [ek] at HR3
      clear ek
      obtain ⟨A3, c3, rfl⟩ := Kd.R_slice HR3.out
      have HCw := Aside0.mk (Kd.C_below HA.out HB.out)
      go_upto_region 26 with (fail)
      go_upto_region 27 with (at_builtin; go_must (refine Kd.R_append_rows (Kd.fixed k32 wo) (Rr := k32.K wo) (w0 := wo) wo.heap.size rfl (.tmp 101) (.tmp 102) 22 32 (.agg #[.int .i64 0, .int .i64 0, .int .i64 0, .int .i64 0, .int .i64 0, .slice none 0 0, .slice none 0 0, .int .i64 0, .int .u64 0, .int .i64 0, .slice none 0 0]) 136 rfl Tryd.underlying22 (by kernel_rfl) (by kernel_rfl) (by show 0 < 11; decide) (by decide) (.slice none 0 0) [] rs A rs.length c0 (fun _ => True) (fun _ => True) rfl rfl (Kd.R_nil _ _ _ _ _) HCw.out (fun _ _ h => h) (fun _ _ => ⟨trivial, fun h => by cases h⟩) (fun _ _ => trivial) (Below.refl _ _) (Nat.le_refl _) (by simp only [List.length_nil]; omega) ?_; intro v10 w1 ho hb hg hat; obtain ⟨B1, b1, rfl⟩ := Kd.R_slice ho; have HV1 := Aside0.mk ho; have HB1 := Aside0.mk hb; clear ho hb hg hat))
      go_upto_region 28 with (at_builtin; go_must (refine Kd.R_append (Kd.fixed k32 wo) (w0 := wo) wo.heap.size rfl (.tmp 104) (.tmp 106) 22 32 (.agg #[.int .i64 0, .int .i64 0, .int .i64 0, .int .i64 0, .int .i64 0, .slice none 0 0, .slice none 0 0, .int .i64 0, .int .u64 0, .int .i64 0, .slice none 0 0]) 136 rfl Tryd.underlying22 (by kernel_rfl) (by kernel_rfl) (by show 0 < 11; decide) (by decide) (.slice B1 rs.length b1) rs rep77 [.int .i64 77, .int .i64 77, .int .i64 0, .int .i64 0, .int .i64 0, .slice none 0 0, .slice none 0 0, .int .i64 0, .int .u64 0, .int .i64 0, .slice none 0 0] (fun _ => True) (fun _ => False) rfl rfl (rep77_K wo) (fun _ h => h.elim) (fun _ _ => trivial) HV1.out HB1.out HB1.out.size (by omega) ?_; intro v10 w2 ho hb hg hat; obtain ⟨B2, b2, rfl⟩ := Kd.R_slice ho; have HV2 := Aside0.mk ho; have HB2 := Aside0.mk hb; clear ho hb hg hat))
      obtain ⟨_, hcap, HC2⟩ := Kd.R_reads' HV2.out
      rw [List.length_append, List.length_singleton] at hcap
      obtain ⟨ad2, e2, x77, y77⟩ := cells77 HC2
      cases e2
      have HCp := Aside0.mk (fixed_take HB2.out HC2)
      clear HC2
      have HBw := Aside0.mk (below_then HB.out HB.out.size HB2.out)
      have hq2 := (Kd.R_reads' (Kd.R_below HR3.out HB2.out)).2.2
      have hqc := (Kd.R_reads' HR3.out).2.1
      rw [List.length_map] at hq2 hqc
      have HQ2 := Aside0.mk hq2
      have HQc := Aside0.mk hqc
      clear hq2 hqc
      have HA2 := Aside0.mk (Kd.C_below HA.out HBw.out)
      go_upto_region 29 with (go_at_call 8; go_must (refine (print_calls _ (some ad2) b2 rs HCp.out (HG.out.below HBw.out) HO.out.1 HO.out.2.1 HO.out.2.2).mono ?_; rintro e w3 ⟨rfl, hb⟩; have HB3 := Aside0.mk hb; clear hb; replace x77 := pw_cell_below HB3.out x77; replace y77 := pw_cell_below HB3.out y77))
      have HCp3 := Aside0.mk (Kd.C_below HCp.out HB3.out)
      have HA3 := Aside0.mk (Kd.C_below HA2.out HB3.out)
      have HQ3 := Aside0.mk (Kd.C_below HQ2.out HB3.out)
      have HW3 := Aside0.mk (below_then HBw.out HBw.out.size HB3.out)
      clear HCp HA2 HQ2 HB3
      have HO1 : Aside0 (rs.length ≤ 1000000000) := ⟨HO.out.1⟩
      have HO2 : Aside0 (∀ r ∈ rs, okRep r) := ⟨HO.out.2.1⟩
      go_wp2_with (first
        | (go_at_call 9; go_must (refine (refPrint_calls K A3 c3 rs _ _ HQ3.out HQc.out HK.out).mono ?_; rintro e w4 ⟨rfl, hb⟩; have HCp4 := Aside0.mk (Kd.C_below HCp3.out hb); have HA4 := Aside0.mk (Kd.C_below HA3.out hb); have HQ4 := Aside0.mk (Kd.C_below HQ3.out hb); have HW4 := Aside0.mk (below_then HW3.out HW3.out.size hb); replace x77 := pw_cell_below hb x77; replace y77 := pw_cell_below hb y77; clear hb))
        | (go_at_call 10; ((with_reducible refine (same_calls _ A c0 A3 c3 rs.length rs rfl HA4.out HQ4.out HO1.out HO2.out).mono ?_)); go_must (rintro e w5 ⟨rfl, hb⟩; have HCp5 := Aside0.mk (Kd.C_below HCp4.out hb); have HQ5 := Aside0.mk (Kd.C_below HQ4.out hb); have HW5 := Aside0.mk (below_then HW4.out HW4.out.size hb); replace x77 := pw_cell_below hb x77; replace y77 := pw_cell_below hb y77; clear hb))
        | (go_at_call 10; ((with_reducible refine (same_calls _ (some ad2) b2 A3 c3 rs.length rs rfl HCp5.out HQ5.out HO1.out HO2.out).mono ?_)); go_must (rintro e w6 ⟨rfl, hb⟩; have HW6 := Aside0.mk (below_then HW5.out HW5.out.size hb); replace x77 := pw_cell_below hb x77; replace y77 := pw_cell_below hb y77; clear hb)))
      go_ret
      exact ⟨rfl, HW6.out⟩

end Go.Proofs.YtggbhdcgfnjogaaDoor.PSp
