-- Laid by inj.py, a program of this session, which runs the kit's print tool beside contracts typed by hand. Not trusted: Lean checks it.
import Derived.Test.YtggbhdcgfnjogaaDoorPSpx0
import Derived.Test.YtggbhdcgfnjogaaDoorPSpx1
import Derived.Test.YtggbhdcgfnjogaaDoorPSpx2
import Derived.Test.YtggbhdcgfnjogaaDoorPSpx3
namespace Go.Proofs.YtggbhdcgfnjogaaDoor.PSp
open Go.RowKit Go.Proofs.YtggbhdcgfnjogaaDoorW.PrintWords Go.Proofs.YtggbhdcgfnjogaaDoorW.PrintLast Go.Proofs.YtggbhdcgfnjogaaDoorW.PrintMore
attribute [local go_sem] max2_int min2_int max_two min_two max_three min_three max_four min_four   -- for this text's walks alone
set_option linter.unusedVariables false
set_option linter.unusedSimpArgs false

attribute [local go_sem high] eqA84
/-! ### stratalaw17_sameRow: function 66 -/
def stratalaw17_sameRow.l0 : Nat → List (S84) → List (S84) → Int → Option (Bool)
  | 0, _, _, _ => none
  | k + 1, x0, x1, x5 => if x5 < (x0.length : Int) then (if 0 ≤ x5 then (if x5 < (x1.length : Int) then (if (!(((rd_T84 x0 x5).f0) == ((rd_T84 x1 x5).f0)) || (!(((rd_T84 x0 x5).f1) == ((rd_T84 x1 x5).f1)) || (!((((rd_T84 x0 x5).f2).toList) == (((rd_T84 x1 x5).f2).toList))))) = true then (some false) else (stratalaw17_sameRow.l0 k x0 x1 (wrap64 (x5 + 1)))) else (none)) else (none)) else (some true)
def stratalaw17_sameRow.f (k : Nat) (l0 : List (S84)) (l1 : List (S84)) : Option (Bool) := if (l0.length : Int) = (l1.length : Int) then (stratalaw17_sameRow.l0 k l0 l1 0) else (some false)
theorem stratalaw17_sameRow.mono_l : ∀ k, (∀ y0 y1 y2, LeO (stratalaw17_sameRow.l0 k y0 y1 y2) (stratalaw17_sameRow.l0 (k + 1) y0 y1 y2))
  | 0 => fun _ _ _ r h => by simp [stratalaw17_sameRow.l0] at h
  | k + 1 => by
    have ih0 := stratalaw17_sameRow.mono_l k
    · intro y0 y1 y2
      unfold stratalaw17_sameRow.l0
      repeat' first
      | (with_reducible exact ih0 _ _ _)
      | (with_reducible exact LeO.refl _)
      | (with_reducible exact LeO.none _)
      | (with_reducible refine LeO.ite ?_ ?_)
      | (with_reducible refine LeO.bind ?_ (fun _ => ?_))
      | exact ih0 _ _ _
      | exact LeO.none _
      | refine LeO.ite ?_ ?_
      | refine LeO.bind ?_ (fun _ => ?_)
theorem stratalaw17_sameRow.mono : ∀ a0 a1 k, LeO (stratalaw17_sameRow.f k a0 a1) (stratalaw17_sameRow.f (k + 1) a0 a1) := by
  intro a0 a1 k
  have ih0 := stratalaw17_sameRow.mono_l k
  unfold stratalaw17_sameRow.f
  repeat' first
      | (with_reducible exact ih0 _ _ _)
      | (with_reducible exact LeO.refl _)
      | (with_reducible exact LeO.none _)
      | (with_reducible refine LeO.ite ?_ ?_)
      | (with_reducible refine LeO.bind ?_ (fun _ => ?_))
      | exact ih0 _ _ _
      | exact LeO.none _
      | refine LeO.ite ?_ ?_
      | refine LeO.bind ?_ (fun _ => ?_)
set_option maxHeartbeats 8000000 in
set_option maxRecDepth 100000 in
theorem stratalaw17_sameRow.calls (k : Nat) (A0 : Option Addr) (c0 : Nat) (l0 : List (S84)) (A1 : Option Addr) (c1 : Nat) (l1 : List (S84)) (r : Bool) (w : World) (hr0 : Kd.C k84 w A0 l0.length l0) (hc0 : l0.length ≤ c0) (hr1 : Kd.C k84 w A1 l1.length l1) (hc1 : l1.length ≤ c1) (h : stratalaw17_sameRow.f k l0 l1 = some r) :
    Calls Tryd.prog 66 #[.slice A0 l0.length c0, .slice A1 l1.length c1] w fun e w' => e = .returned (.bool r) ∧ Drawn0 w w' := by
  have hu84 := Tryd.underlying84
  have HR0 := Aside0.mk hr0
  have HC0 := Aside0.mk hc0
  clear hr0 hc0
  have HR1 := Aside0.mk hr1
  have HC1 := Aside0.mk hc1
  clear hr1 hc1
  have H : (if (l0.length : Int) = (l1.length : Int) then (stratalaw17_sameRow.l0 k l0 l1 0) else (some false)) = some r := h
  clear h
  by_cases c3 : (l0.length : Int) = (l1.length : Int)
  · rw [if_pos c3] at H
    have c3b0 : ((l0.length : Int) == (l1.length : Int)) = true := beq_iff_eq.mpr c3
    have c3b1 : ((l0.length : Int) != (l1.length : Int)) = false := bne_eq_false_iff_eq.mpr c3
    have c3b2 : (l0.length == l1.length) = true := by first | simpa using c3 | (simp at c3 ⊢; omega)
    clear c3
    have H' := Aside0.mk H
    clear H
    go_enter Tryd.func66, Tryd.ntmps66
    go_wp2
    repeat (go_quiet (fail); try go_wp2)
    go_loopg [5] k (fun kq v5 w' => ∃ (x5_1 : Int), v5 = .int .i64 x5_1 ∧ Aside0 (stratalaw17_sameRow.l0 kq l0 l1 x5_1 = some r) ∧ Aside0 (kq ≤ k) ∧ Drawn0 w w')
    case atStart => exact ⟨(0), (by first | rfl | (simp; done) | (simp [*]; done)), H', ⟨Nat.le_refl _⟩, by repeat (first | exact Drawn0.refl _ | apply Drawn0.step)⟩
    case round =>
      clear H'
      try clear c1
      try clear p2
      try clear c3
      try clear c3b0
      try clear c3b1
      try clear c3b2
      obtain ⟨x5_1, rfl, HA, HK1, ⟨m1, rfl⟩⟩ := hrel
      cases gk with
      | zero => exact absurd HA.out (by simp [stratalaw17_sameRow.l0])
      | succ k1 =>
        have H := HA.out
        clear HA
        simp only [stratalaw17_sameRow.l0] at H
        by_cases c4 : x5_1 < (l0.length : Int)
        · rw [if_pos c4] at H
          have c4b0 : decide (x5_1 < (l0.length : Int)) = true := decide_eq_true c4
          clear c4
          by_cases c5 : 0 ≤ x5_1
          · rw [if_pos c5] at H
            have c5b0 : decide (0 ≤ x5_1) = true := decide_eq_true c5
            clear c5
            by_cases c6 : x5_1 < (l1.length : Int)
            · rw [if_pos c6] at H
              have c6b0 : decide (x5_1 < (l1.length : Int)) = true := decide_eq_true c6
              clear c6
              by_cases c7 : (!(((rd_T84 l0 x5_1).f0) == ((rd_T84 l1 x5_1).f0)) || (!(((rd_T84 l0 x5_1).f1) == ((rd_T84 l1 x5_1).f1)) || (!((((rd_T84 l0 x5_1).f2).toList) == (((rd_T84 l1 x5_1).f2).toList))))) = true
              · rw [if_pos c7] at H
                have c7b0 : (!(((rd_T84 l0 x5_1).f0) == ((rd_T84 l1 x5_1).f0)) || (!(((rd_T84 l0 x5_1).f1) == ((rd_T84 l1 x5_1).f1)) || (!((((rd_T84 l0 x5_1).f2).toList) == (((rd_T84 l1 x5_1).f2).toList))))) = true := c7
                clear c7
                obtain rfl := Option.some.inj H
                have p140 : 0 ≤ (x5_1 : Int) := of_decide_eq_true (by first | (with_reducible assumption) | assumption)
                have q140 : x5_1 < (l0.length : Int) := of_decide_eq_true (by first | (with_reducible assumption) | assumption)
                obtain ⟨ad140, e140, hx140_0, hx140_1, hx140_2⟩ := at_T84 HR0.out x5_1 p140 q140
                cases e140
                replace p140 := eq_true p140
                replace q140 := eq_true q140
                have p141 : 0 ≤ (x5_1 : Int) := of_decide_eq_true (by first | (with_reducible assumption) | assumption)
                have q141 : x5_1 < (l1.length : Int) := of_decide_eq_true (by first | (with_reducible assumption) | assumption)
                obtain ⟨ad141, e141, hx141_0, hx141_1, hx141_2⟩ := at_T84 HR1.out x5_1 p141 q141
                cases e141
                replace p141 := eq_true p141
                replace q141 := eq_true q141
                go_wp2
                repeat (go_quiet (fail); try go_wp2)
                go_ret
                exact ⟨by first | rfl | (simp; done) | (simp [*]; done), by repeat (first | exact Drawn0.refl _ | apply Drawn0.step)⟩
              · rw [if_neg c7] at H
                have c7b0 : (!(((rd_T84 l0 x5_1).f0) == ((rd_T84 l1 x5_1).f0)) || (!(((rd_T84 l0 x5_1).f1) == ((rd_T84 l1 x5_1).f1)) || (!((((rd_T84 l0 x5_1).f2).toList) == (((rd_T84 l1 x5_1).f2).toList))))) = false := by simpa using c7
                clear c7
                have H' := Aside0.mk H
                clear H
                have p140 : 0 ≤ (x5_1 : Int) := of_decide_eq_true (by first | (with_reducible assumption) | assumption)
                have q140 : x5_1 < (l0.length : Int) := of_decide_eq_true (by first | (with_reducible assumption) | assumption)
                obtain ⟨ad140, e140, hx140_0, hx140_1, hx140_2⟩ := at_T84 HR0.out x5_1 p140 q140
                cases e140
                replace p140 := eq_true p140
                replace q140 := eq_true q140
                have p141 : 0 ≤ (x5_1 : Int) := of_decide_eq_true (by first | (with_reducible assumption) | assumption)
                have q141 : x5_1 < (l1.length : Int) := of_decide_eq_true (by first | (with_reducible assumption) | assumption)
                obtain ⟨ad141, e141, hx141_0, hx141_1, hx141_2⟩ := at_T84 HR1.out x5_1 p141 q141
                cases e141
                replace p141 := eq_true p141
                replace q141 := eq_true q141
                go_wp2
                repeat (go_quiet (fail); try go_wp2)
                go_roundg k1
                case measure => have := HK1.out; omega
                case rel => exact ⟨(wrap64 (x5_1 + 1)), (by first | rfl | (simp; done) | (simp [*]; done)), H', ⟨by have := HK1.out; omega⟩, by repeat (first | exact Drawn0.refl _ | apply Drawn0.step)⟩
            · rw [if_neg c6] at H
              exact absurd H (by simp)
          · rw [if_neg c5] at H
            exact absurd H (by simp)
        · rw [if_neg c4] at H
          have c4b0 : decide (x5_1 < (l0.length : Int)) = false := decide_eq_false c4
          clear c4
          obtain rfl := Option.some.inj H
          go_wp2
          repeat (go_quiet (fail); try go_wp2)
          go_ret
          exact ⟨by first | rfl | (simp; done) | (simp [*]; done), by repeat (first | exact Drawn0.refl _ | apply Drawn0.step)⟩
  · rw [if_neg c3] at H
    have c3b0 : ((l0.length : Int) == (l1.length : Int)) = false := beq_eq_false_iff_ne.mpr c3
    have c3b1 : ((l0.length : Int) != (l1.length : Int)) = true := bne_iff_ne.mpr c3
    have c3b2 : (l0.length == l1.length) = false := by first | simpa using c3 | (simp at c3 ⊢; omega)
    obtain rfl := Option.some.inj H
    go_enter Tryd.func66, Tryd.ntmps66
    go_wp2
    repeat (go_quiet (fail); try go_wp2)
    go_ret
    exact ⟨by first | rfl | (simp; done) | (simp [*]; done), by repeat (first | exact Drawn0.refl _ | apply Drawn0.step)⟩

/-! ### stratalaw17_sameReplies: function 10 (by hand) -/
theorem w64 (x : Int) (h0 : -9223372036854775808 ≤ x) (h1 : x ≤ 9223372036854775807) : wrap64 x = x := by
  unfold wrap64
  omega
theorem sameRow_l0 (l : List S84) (hl : l.length ≤ 1000000000) : ∀ (d i : Nat), i + d = l.length → stratalaw17_sameRow.l0 (d + 1) l l (i : Int) = some true := by
  intro d
  induction d with
  | zero =>
    intro i h
    unfold stratalaw17_sameRow.l0
    rw [if_neg (by omega)]
  | succ d ih =>
    intro i h
    unfold stratalaw17_sameRow.l0
    rw [if_pos (by omega), if_pos (by omega), if_pos (by omega), if_neg (by simp), w64 _ (by omega) (by omega)]
    exact ih (i + 1) (by omega)
theorem sameRow_refl (l : List S84) (hl : l.length ≤ 1000000000) : stratalaw17_sameRow.f (l.length + 1) l l = some true := by
  unfold stratalaw17_sameRow.f
  rw [if_pos rfl]
  exact sameRow_l0 l hl l.length 0 (by omega)
structure okTab (ns : List ByteArray) (rs : List (List S84)) : Prop where
  nl : ns.length ≤ 1000000000
  rl : rs.length ≤ 1000000000
  rq : ∀ r ∈ rs, r.length ≤ 1000000000
set_option maxHeartbeats 8000000 in
set_option maxRecDepth 100000 in
theorem sameRes_calls (w : World) (c cn st en : Int) (A1 : Option Addr) (c1 : Nat) (A2 : Option Addr) (c2 : Nat) (B1 : Option Addr) (e1 : Nat) (B2 : Option Addr) (e2 : Nat) (ns : List ByteArray) (rs : List (List S84))
    (hA1 : Kd.C Kd.string w A1 ns.length ns) (hA2 : Kd.C (Kd.slice 84 k84) w A2 rs.length rs) (hB1 : Kd.C Kd.string w B1 ns.length ns) (hB2 : Kd.C (Kd.slice 84 k84) w B2 rs.length rs) (hO : okTab ns rs) :
    Calls Tryd.prog 32 #[.agg #[.int .i64 c, .slice A1 ns.length c1, .slice A2 rs.length c2, .int .i64 cn, .int .u64 st, .int .i64 en], .agg #[.int .i64 c, .slice B1 ns.length e1, .slice B2 rs.length e2, .int .i64 cn, .int .u64 st, .int .i64 en]] w fun e w' => e = .returned (.bool true) ∧ Below w.heap.size w w' := by
  have HA1 := Aside0.mk hA1
  have HA2 := Aside0.mk hA2
  have HB1 := Aside0.mk hB1
  have HB2 := Aside0.mk hB2
  have HO := Aside0.mk hO
  clear hA1 hA2 hB1 hB2 hO
  go_enter Tryd.func32, Tryd.ntmps32
  go_upto_region 1 with (fail)
  have k1 := blk_new w (.cells #[.int .i64 c, .slice A1 ns.length c1, .slice A2 rs.length c2, .int .i64 cn, .int .u64 st, .int .i64 en] 29)
  have K1 := Aside0.mk (blk_alloc k1 (.cells #[.int .i64 c, .slice B1 ns.length e1, .slice B2 rs.length e2, .int .i64 cn, .int .u64 st, .int .i64 en] 34))
  have k2 := blk_new (w.alloc (.cells #[.int .i64 c, .slice A1 ns.length c1, .slice A2 rs.length c2, .int .i64 cn, .int .u64 st, .int .i64 en] 29)) (.cells #[.int .i64 c, .slice B1 ns.length e1, .slice B2 rs.length e2, .int .i64 cn, .int .u64 st, .int .i64 en] 34)
  rw [World.size_alloc] at k2
  have K2 := Aside0.mk k2
  clear k2
  have HB := Aside0.mk (below_alloc (below_alloc (Below.refl w.heap.size w) (.cells #[.int .i64 c, .slice A1 ns.length c1, .slice A2 rs.length c2, .int .i64 cn, .int .u64 st, .int .i64 en] 29)) (.cells #[.int .i64 c, .slice B1 ns.length e1, .slice B2 rs.length e2, .int .i64 cn, .int .u64 st, .int .i64 en] 34))
  clear k1
  generalize hW : (w.alloc (.cells #[.int .i64 c, .slice A1 ns.length c1, .slice A2 rs.length c2, .int .i64 cn, .int .u64 st, .int .i64 en] 29)).alloc (.cells #[.int .i64 c, .slice B1 ns.length e1, .slice B2 rs.length e2, .int .i64 cn, .int .u64 st, .int .i64 en] 34) = W at *
  generalize hg1 : w.heap.size = g1 at *
  clear hW
  have ha0 : W.cell? ⟨g1, 0, none⟩ = some (.int .i64 c) := (blk_cell K1.out 0).trans rfl
  have ha1 : W.cell? ⟨g1, 1, none⟩ = some (.slice A1 ns.length c1) := (blk_cell K1.out 1).trans rfl
  have ha2 : W.cell? ⟨g1, 2, none⟩ = some (.slice A2 rs.length c2) := (blk_cell K1.out 2).trans rfl
  have ha3 : W.cell? ⟨g1, 3, none⟩ = some (.int .i64 cn) := (blk_cell K1.out 3).trans rfl
  have ha4 : W.cell? ⟨g1, 4, none⟩ = some (.int .u64 st) := (blk_cell K1.out 4).trans rfl
  have ha5 : W.cell? ⟨g1, 5, none⟩ = some (.int .i64 en) := (blk_cell K1.out 5).trans rfl
  have hb0 : W.cell? ⟨g1 + 1, 0, none⟩ = some (.int .i64 c) := (blk_cell K2.out 0).trans rfl
  have hb1 : W.cell? ⟨g1 + 1, 1, none⟩ = some (.slice B1 ns.length e1) := (blk_cell K2.out 1).trans rfl
  have hb2 : W.cell? ⟨g1 + 1, 2, none⟩ = some (.slice B2 rs.length e2) := (blk_cell K2.out 2).trans rfl
  have hb3 : W.cell? ⟨g1 + 1, 3, none⟩ = some (.int .i64 cn) := (blk_cell K2.out 3).trans rfl
  have hb4 : W.cell? ⟨g1 + 1, 4, none⟩ = some (.int .u64 st) := (blk_cell K2.out 4).trans rfl
  have hb5 : W.cell? ⟨g1 + 1, 5, none⟩ = some (.int .i64 en) := (blk_cell K2.out 5).trans rfl
  go_quiet (first | (go_at_call 7; exact Calls.quiet_of ((stratalaw17_num.calls c c _ rfl).mono fun _ _ h => ⟨h.1, h.2.out⟩)))
  go_wp2
  go_loopw [5] (fun v5 wr => ∃ (k m : Nat), k ≤ ns.length ∧ v5 = .int .i64 (k : Int) ∧ wr = W.drewN m) (fun v5 _ => ns.length - (intOf v5).toNat)
  case atStart => exact ⟨0, nq, Nat.zero_le _, rfl, rfl⟩
  case round =>
    obtain ⟨k, m, hk, rfl, rfl⟩ := hrel
    have hk9 : k ≤ 1000000000 := Nat.le_trans hk HO.out.nl
    by_cases hlt : k < ns.length
    · have d1 : decide ((k : Int) < (ns.length : Int)) = true := decide_eq_true (by omega)
      obtain ⟨ad, ea, h0⟩ := str_lt HA1.out k hlt
      obtain ⟨bd, eb, h1⟩ := str_lt HB1.out k hlt
      cases ea
      cases eb
      replace h0 := (HB.out.cell (hg1 ▸ World.block_lt_of_cell? w _ h0)).trans h0
      replace h1 := (HB.out.cell (hg1 ▸ World.block_lt_of_cell? w _ h1)).trans h1
      have q4 : (k : Int) < (ns.length : Int) := by omega
      generalize ns.getD k ByteArray.empty = x at *
      go_wp2_with fail
      go_quiet (fail)
      go_wp2
      go_roundw
      case rel => exact ⟨k + 1, _, by omega, by go_num, rfl⟩
      case measure => simp [intOf]; omega
    · have d1 : decide ((k : Int) < (ns.length : Int)) = false := decide_eq_false (by omega)
      go_wp2
      go_loopw [6] (fun v6 wr => ∃ (j m : Nat), j ≤ rs.length ∧ v6 = .int .i64 (j : Int) ∧ wr = W.drewN m) (fun v6 _ => rs.length - (intOf v6).toNat)
      case atStart => exact ⟨0, m, Nat.zero_le _, rfl, rfl⟩
      case round =>
        obtain ⟨j, m2, hj, rfl, rfl⟩ := hrel
        have hj9 : j ≤ 1000000000 := Nat.le_trans hj HO.out.rl
        by_cases hjt : j < rs.length
        · have d2 : decide ((j : Int) < (rs.length : Int)) = true := decide_eq_true (by omega)
          obtain ⟨ad, A3, c3, ea, h0, l3, C3⟩ := at_L4 HA2.out (j : Int) (by omega) (by omega)
          obtain ⟨bd, B3, e3, eb, h1, l4, C4⟩ := at_L4 HB2.out (j : Int) (by omega) (by omega)
          cases ea
          cases eb
          simp only [Int.toNat_natCast] at h0 h1
          replace h0 := (HB.out.cell (hg1 ▸ World.block_lt_of_cell? w _ h0)).trans h0
          replace h1 := (HB.out.cell (hg1 ▸ World.block_lt_of_cell? w _ h1)).trans h1
          have q4 : (j : Int) < (rs.length : Int) := by omega
          have HM := Aside0.mk (rdL_lt rs j hjt ▸ HO.out.rq rs[j] (List.getElem_mem hjt))
          generalize rd_L4 rs (j : Int) = x at *
          have hbw : Below w.heap.size w W := hg1 ▸ HB.out
          have HC3 := Aside0.mk (Kd.C_below C3 hbw)
          have HC4 := Aside0.mk (Kd.C_below C4 hbw)
          clear hbw
          have HL3 := Aside0.mk l3
          have HL4 := Aside0.mk l4
          clear C3 C4 l3 l4
          go_wp2_with fail
          go_quiet (first | (go_at_call 66; exact ((stratalaw17_sameRow.calls (x.length + 1) A3 c3 x B3 e3 x true _ (by first | exact HC3.out | exact Kd.C_below HC3.out (pw_below_drewN (Below.refl _ _) _) | exact Kd.C_below HC3.out (pw_below_drewN (pw_below_drewN (Below.refl _ _) _) _)) HL3.out (by first | exact HC4.out | exact Kd.C_below HC4.out (pw_below_drewN (Below.refl _ _) _) | exact Kd.C_below HC4.out (pw_below_drewN (pw_below_drewN (Below.refl _ _) _) _)) HL4.out (sameRow_refl x HM.out)).mono fun _ _ h => ⟨h.1, by obtain ⟨n, hn⟩ := h.2.out; exact ⟨_, by rw [hn, World.drewN_drewN, Nat.add_assoc]⟩⟩)))
          go_wp2
          go_roundw
          case rel => exact ⟨j + 1, _, by omega, by go_num, rfl⟩
          case measure => simp [intOf]; omega
        · have d2 : decide ((j : Int) < (rs.length : Int)) = false := decide_eq_false (by omega)
          go_wp2
          go_ret
          refine ⟨rfl, ?_⟩
          subst hg1
          exact pw_below_drewN HB.out _
def toRef (x : S32) : S36 := ⟨x.f0, x.f1, x.f2, x.f3, ⟨x.f4.f0, x.f4.f1, x.f4.f2, x.f4.f3, x.f4.f4, x.f4.f5⟩, x.f5⟩
theorem okTab_of {x : S32} (h : okRep x) : okTab x.f4.f1 x.f4.f2 := ⟨h.res.nl, h.res.rl, fun r hr => (h.res.rq r hr).1⟩
theorem rdQ_map (l : List S32) (k : Nat) (h : k < l.length) : rd_T36 (l.map toRef) (k : Int) = toRef (rd_T32 l (k : Int)) := by
  simp [rd_T36, rd_T32, List.getD_eq_getElem?_getD, h]
set_option maxHeartbeats 8000000 in
set_option maxRecDepth 100000 in
theorem same_calls (w : World) (A : Option Addr) (c0 : Nat) (B : Option Addr) (d0 n : Nat) (l : List S32) (hn : n = l.length) (hA : Kd.C k32 w A n l) (hB : Kd.C k36 w B n (l.map toRef)) (hl : l.length ≤ 1000000000) (hO : ∀ r ∈ l, okRep r) :
    Calls Tryd.prog 10 #[.slice A n c0, .slice B n d0] w fun e w' => e = .returned (.bool true) ∧ Below w.heap.size w w' := by
  have HA := Aside0.mk hA
  have HB := Aside0.mk hB
  have HL := Aside0.mk (hn ▸ hl : n ≤ 1000000000)
  have HN := Aside0.mk hn
  have HO := Aside0.mk hO
  have HW := Aside0.mk (Below.refl w.heap.size w)
  clear hA hB hl hn hO
  go_enter Tryd.func10, Tryd.ntmps10
  go_wp2
  go_loopw [5] (fun v5 wr => ∃ (k : Nat), k ≤ n ∧ v5 = .int .i64 (k : Int) ∧ Aside0 (Below w.heap.size w wr)) (fun v5 _ => n - (intOf v5).toNat)
  case atStart => exact ⟨0, Nat.zero_le _, rfl, HW⟩
  case round =>
    clear HW
    obtain ⟨k, hk, rfl, HW⟩ := hrel
    have hk9 : k ≤ 1000000000 := Nat.le_trans hk HL.out
    by_cases hlt : k < n
    · have d1 : decide ((k : Int) < (n : Int)) = true := decide_eq_true (by omega)
      have d9 : (k : Int) < (n : Int) := by omega
      obtain ⟨ad, A5, c5, A6, c6, A10, c10, ea, g0, g1, g2, g3, g4, g5, g6, g7, g8, g9, g10, l5, C5, l6, C6, l10, C10⟩ := at_T32 HA.out (k : Int) (by omega) (by omega)
      obtain ⟨bd, B5, d5, B6, d6, B10, d10, eb, q0, q1, q2, q3, q4, q5, q6, q7, q8, q9, q10, m5, D5, m6, D6, m10, D10⟩ := at_T36 HB.out (k : Int) (by omega) (by omega)
      cases ea
      cases eb
      have hlen : k < l.length := HN.out ▸ hlt
      rw [rdQ_map l k hlen] at q0 q1 q2 q3 q4 q5 q6 q7 q8 q9 q10 D5 D6 D10
      simp only [Int.toNat_natCast] at g0 g1 g2 g3 g4 g5 g6 g7 g8 g9 g10 q0 q1 q2 q3 q4 q5 q6 q7 q8 q9 q10
      have HM := Aside0.mk (rdR_lt l k hlen ▸ HO.out l[k] (List.getElem_mem hlen))
      clear l5 l6 l10 m5 m6 m10 hlen
      generalize rd_T32 l (k : Int) = x at *
      obtain ⟨cmd, kind, who, code, ⟨rc, ns, rws, cn, stm, en⟩, nums⟩ := x
      dsimp only [toRef] at g0 g1 g2 g3 g4 g5 g6 g7 g8 g9 g10 C5 C6 C10 q0 q1 q2 q3 q4 q5 q6 q7 q8 q9 q10 D5 D6 D10
      replace g0 := (HW.out.cell (World.block_lt_of_cell? w _ g0)).trans g0
      replace g1 := (HW.out.cell (World.block_lt_of_cell? w _ g1)).trans g1
      replace g2 := (HW.out.cell (World.block_lt_of_cell? w _ g2)).trans g2
      replace g3 := (HW.out.cell (World.block_lt_of_cell? w _ g3)).trans g3
      replace g4 := (HW.out.cell (World.block_lt_of_cell? w _ g4)).trans g4
      replace g5 := (HW.out.cell (World.block_lt_of_cell? w _ g5)).trans g5
      replace g6 := (HW.out.cell (World.block_lt_of_cell? w _ g6)).trans g6
      replace g7 := (HW.out.cell (World.block_lt_of_cell? w _ g7)).trans g7
      replace g8 := (HW.out.cell (World.block_lt_of_cell? w _ g8)).trans g8
      replace g9 := (HW.out.cell (World.block_lt_of_cell? w _ g9)).trans g9
      replace g10 := (HW.out.cell (World.block_lt_of_cell? w _ g10)).trans g10
      replace q0 := (HW.out.cell (World.block_lt_of_cell? w _ q0)).trans q0
      replace q1 := (HW.out.cell (World.block_lt_of_cell? w _ q1)).trans q1
      replace q2 := (HW.out.cell (World.block_lt_of_cell? w _ q2)).trans q2
      replace q3 := (HW.out.cell (World.block_lt_of_cell? w _ q3)).trans q3
      replace q4 := (HW.out.cell (World.block_lt_of_cell? w _ q4)).trans q4
      replace q5 := (HW.out.cell (World.block_lt_of_cell? w _ q5)).trans q5
      replace q6 := (HW.out.cell (World.block_lt_of_cell? w _ q6)).trans q6
      replace q7 := (HW.out.cell (World.block_lt_of_cell? w _ q7)).trans q7
      replace q8 := (HW.out.cell (World.block_lt_of_cell? w _ q8)).trans q8
      replace q9 := (HW.out.cell (World.block_lt_of_cell? w _ q9)).trans q9
      replace q10 := (HW.out.cell (World.block_lt_of_cell? w _ q10)).trans q10
      have HC5 := Aside0.mk C5
      have HC6 := Aside0.mk C6
      have HC10 := Aside0.mk C10
      have HD5 := Aside0.mk D5
      have HD6 := Aside0.mk D6
      have HD10 := Aside0.mk D10
      clear C5 C6 C10 D5 D6 D10
      have k1 := blk_new wr (.cells #[.int .i64 cmd, .int .i64 kind, .int .i64 who, .int .i64 code, .int .i64 rc, .slice A5 ns.length c5, .slice A6 rws.length c6, .int .i64 cn, .int .u64 stm, .int .i64 en, .slice A10 nums.length c10] 32)
      have K1 := Aside0.mk (blk_alloc k1 (.cells #[.int .i64 cmd, .int .i64 kind, .int .i64 who, .int .i64 code, .int .i64 rc, .slice B5 ns.length d5, .slice B6 rws.length d6, .int .i64 cn, .int .u64 stm, .int .i64 en, .slice B10 nums.length d10] 36))
      have k2 := blk_new (wr.alloc (.cells #[.int .i64 cmd, .int .i64 kind, .int .i64 who, .int .i64 code, .int .i64 rc, .slice A5 ns.length c5, .slice A6 rws.length c6, .int .i64 cn, .int .u64 stm, .int .i64 en, .slice A10 nums.length c10] 32)) (.cells #[.int .i64 cmd, .int .i64 kind, .int .i64 who, .int .i64 code, .int .i64 rc, .slice B5 ns.length d5, .slice B6 rws.length d6, .int .i64 cn, .int .u64 stm, .int .i64 en, .slice B10 nums.length d10] 36)
      rw [World.size_alloc] at k2
      have K2 := Aside0.mk k2
      have HV := Aside0.mk (below_alloc (below_alloc HW.out (.cells #[.int .i64 cmd, .int .i64 kind, .int .i64 who, .int .i64 code, .int .i64 rc, .slice A5 ns.length c5, .slice A6 rws.length c6, .int .i64 cn, .int .u64 stm, .int .i64 en, .slice A10 nums.length c10] 32)) (.cells #[.int .i64 cmd, .int .i64 kind, .int .i64 who, .int .i64 code, .int .i64 rc, .slice B5 ns.length d5, .slice B6 rws.length d6, .int .i64 cn, .int .u64 stm, .int .i64 en, .slice B10 nums.length d10] 36))
      clear k1 k2
      replace q0 := pw_cell_below (below_alloc (Below.refl wr.heap.size wr) (.cells #[.int .i64 cmd, .int .i64 kind, .int .i64 who, .int .i64 code, .int .i64 rc, .slice A5 ns.length c5, .slice A6 rws.length c6, .int .i64 cn, .int .u64 stm, .int .i64 en, .slice A10 nums.length c10] 32)) q0
      replace q1 := pw_cell_below (below_alloc (Below.refl wr.heap.size wr) (.cells #[.int .i64 cmd, .int .i64 kind, .int .i64 who, .int .i64 code, .int .i64 rc, .slice A5 ns.length c5, .slice A6 rws.length c6, .int .i64 cn, .int .u64 stm, .int .i64 en, .slice A10 nums.length c10] 32)) q1
      replace q2 := pw_cell_below (below_alloc (Below.refl wr.heap.size wr) (.cells #[.int .i64 cmd, .int .i64 kind, .int .i64 who, .int .i64 code, .int .i64 rc, .slice A5 ns.length c5, .slice A6 rws.length c6, .int .i64 cn, .int .u64 stm, .int .i64 en, .slice A10 nums.length c10] 32)) q2
      replace q3 := pw_cell_below (below_alloc (Below.refl wr.heap.size wr) (.cells #[.int .i64 cmd, .int .i64 kind, .int .i64 who, .int .i64 code, .int .i64 rc, .slice A5 ns.length c5, .slice A6 rws.length c6, .int .i64 cn, .int .u64 stm, .int .i64 en, .slice A10 nums.length c10] 32)) q3
      replace q4 := pw_cell_below (below_alloc (Below.refl wr.heap.size wr) (.cells #[.int .i64 cmd, .int .i64 kind, .int .i64 who, .int .i64 code, .int .i64 rc, .slice A5 ns.length c5, .slice A6 rws.length c6, .int .i64 cn, .int .u64 stm, .int .i64 en, .slice A10 nums.length c10] 32)) q4
      replace q5 := pw_cell_below (below_alloc (Below.refl wr.heap.size wr) (.cells #[.int .i64 cmd, .int .i64 kind, .int .i64 who, .int .i64 code, .int .i64 rc, .slice A5 ns.length c5, .slice A6 rws.length c6, .int .i64 cn, .int .u64 stm, .int .i64 en, .slice A10 nums.length c10] 32)) q5
      replace q6 := pw_cell_below (below_alloc (Below.refl wr.heap.size wr) (.cells #[.int .i64 cmd, .int .i64 kind, .int .i64 who, .int .i64 code, .int .i64 rc, .slice A5 ns.length c5, .slice A6 rws.length c6, .int .i64 cn, .int .u64 stm, .int .i64 en, .slice A10 nums.length c10] 32)) q6
      replace q7 := pw_cell_below (below_alloc (Below.refl wr.heap.size wr) (.cells #[.int .i64 cmd, .int .i64 kind, .int .i64 who, .int .i64 code, .int .i64 rc, .slice A5 ns.length c5, .slice A6 rws.length c6, .int .i64 cn, .int .u64 stm, .int .i64 en, .slice A10 nums.length c10] 32)) q7
      replace q8 := pw_cell_below (below_alloc (Below.refl wr.heap.size wr) (.cells #[.int .i64 cmd, .int .i64 kind, .int .i64 who, .int .i64 code, .int .i64 rc, .slice A5 ns.length c5, .slice A6 rws.length c6, .int .i64 cn, .int .u64 stm, .int .i64 en, .slice A10 nums.length c10] 32)) q8
      replace q9 := pw_cell_below (below_alloc (Below.refl wr.heap.size wr) (.cells #[.int .i64 cmd, .int .i64 kind, .int .i64 who, .int .i64 code, .int .i64 rc, .slice A5 ns.length c5, .slice A6 rws.length c6, .int .i64 cn, .int .u64 stm, .int .i64 en, .slice A10 nums.length c10] 32)) q9
      replace q10 := pw_cell_below (below_alloc (Below.refl wr.heap.size wr) (.cells #[.int .i64 cmd, .int .i64 kind, .int .i64 who, .int .i64 code, .int .i64 rc, .slice A5 ns.length c5, .slice A6 rws.length c6, .int .i64 cn, .int .u64 stm, .int .i64 en, .slice A10 nums.length c10] 32)) q10
      go_upto_region 8 with (fail)
      generalize hW : (wr.alloc (.cells #[.int .i64 cmd, .int .i64 kind, .int .i64 who, .int .i64 code, .int .i64 rc, .slice A5 ns.length c5, .slice A6 rws.length c6, .int .i64 cn, .int .u64 stm, .int .i64 en, .slice A10 nums.length c10] 32)).alloc (.cells #[.int .i64 cmd, .int .i64 kind, .int .i64 who, .int .i64 code, .int .i64 rc, .slice B5 ns.length d5, .slice B6 rws.length d6, .int .i64 cn, .int .u64 stm, .int .i64 en, .slice B10 nums.length d10] 36) = W at *
      clear hW
      clear g0 g1 g2 g3 g4 g5 g6 g7 g8 g9 g10 q0 q1 q2 q3 q4 q5 q6 q7 q8 q9 q10
      generalize wr.heap.size = g1 at *

      have a0 : W.cell? ⟨g1, 0, none⟩ = some (.int .i64 cmd) := (blk_cell K1.out 0).trans rfl
      have a1 : W.cell? ⟨g1, 1, none⟩ = some (.int .i64 kind) := (blk_cell K1.out 1).trans rfl
      have a2 : W.cell? ⟨g1, 2, none⟩ = some (.int .i64 who) := (blk_cell K1.out 2).trans rfl
      have a3 : W.cell? ⟨g1, 3, none⟩ = some (.int .i64 code) := (blk_cell K1.out 3).trans rfl
      have a4 : W.cell? ⟨g1, 4, none⟩ = some (.int .i64 rc) := (blk_cell K1.out 4).trans rfl
      have a5 : W.cell? ⟨g1, 5, none⟩ = some (.slice A5 ns.length c5) := (blk_cell K1.out 5).trans rfl
      have a6 : W.cell? ⟨g1, 6, none⟩ = some (.slice A6 rws.length c6) := (blk_cell K1.out 6).trans rfl
      have a7 : W.cell? ⟨g1, 7, none⟩ = some (.int .i64 cn) := (blk_cell K1.out 7).trans rfl
      have a8 : W.cell? ⟨g1, 8, none⟩ = some (.int .u64 stm) := (blk_cell K1.out 8).trans rfl
      have a9 : W.cell? ⟨g1, 9, none⟩ = some (.int .i64 en) := (blk_cell K1.out 9).trans rfl
      have a10 : W.cell? ⟨g1, 10, none⟩ = some (.slice A10 nums.length c10) := (blk_cell K1.out 10).trans rfl
      have b0 : W.cell? ⟨g1 + 1, 0, none⟩ = some (.int .i64 cmd) := (blk_cell K2.out 0).trans rfl
      have b1 : W.cell? ⟨g1 + 1, 1, none⟩ = some (.int .i64 kind) := (blk_cell K2.out 1).trans rfl
      have b2 : W.cell? ⟨g1 + 1, 2, none⟩ = some (.int .i64 who) := (blk_cell K2.out 2).trans rfl
      have b3 : W.cell? ⟨g1 + 1, 3, none⟩ = some (.int .i64 code) := (blk_cell K2.out 3).trans rfl
      have b4 : W.cell? ⟨g1 + 1, 4, none⟩ = some (.int .i64 rc) := (blk_cell K2.out 4).trans rfl
      have b5 : W.cell? ⟨g1 + 1, 5, none⟩ = some (.slice B5 ns.length d5) := (blk_cell K2.out 5).trans rfl
      have b6 : W.cell? ⟨g1 + 1, 6, none⟩ = some (.slice B6 rws.length d6) := (blk_cell K2.out 6).trans rfl
      have b7 : W.cell? ⟨g1 + 1, 7, none⟩ = some (.int .i64 cn) := (blk_cell K2.out 7).trans rfl
      have b8 : W.cell? ⟨g1 + 1, 8, none⟩ = some (.int .u64 stm) := (blk_cell K2.out 8).trans rfl
      have b9 : W.cell? ⟨g1 + 1, 9, none⟩ = some (.int .i64 en) := (blk_cell K2.out 9).trans rfl
      have b10 : W.cell? ⟨g1 + 1, 10, none⟩ = some (.slice B10 nums.length d10) := (blk_cell K2.out 10).trans rfl
      go_cut [71] (fun v71 wc => v71 = .bool false ∧ Aside0 (Below w.heap.size w wc) ∧ Aside0 (Below W.heap.size W wc))
      case first =>
        go_region_held3 (fun w' => w'.cell? ⟨g1, 0, none⟩ = some (.int .i64 cmd) ∧ w'.cell? ⟨g1, 1, none⟩ = some (.int .i64 kind) ∧ w'.cell? ⟨g1, 2, none⟩ = some (.int .i64 who) ∧ w'.cell? ⟨g1, 3, none⟩ = some (.int .i64 code) ∧ w'.cell? ⟨g1, 4, none⟩ = some (.int .i64 rc) ∧ w'.cell? ⟨g1, 5, none⟩ = some (.slice A5 ns.length c5) ∧ w'.cell? ⟨g1, 6, none⟩ = some (.slice A6 rws.length c6) ∧ w'.cell? ⟨g1, 7, none⟩ = some (.int .i64 cn) ∧ w'.cell? ⟨g1, 8, none⟩ = some (.int .u64 stm) ∧ w'.cell? ⟨g1, 9, none⟩ = some (.int .i64 en) ∧ w'.cell? ⟨g1, 10, none⟩ = some (.slice A10 nums.length c10) ∧ w'.cell? ⟨g1 + 1, 0, none⟩ = some (.int .i64 cmd) ∧ w'.cell? ⟨g1 + 1, 1, none⟩ = some (.int .i64 kind) ∧ w'.cell? ⟨g1 + 1, 2, none⟩ = some (.int .i64 who) ∧ w'.cell? ⟨g1 + 1, 3, none⟩ = some (.int .i64 code) ∧ w'.cell? ⟨g1 + 1, 4, none⟩ = some (.int .i64 rc) ∧ w'.cell? ⟨g1 + 1, 5, none⟩ = some (.slice B5 ns.length d5) ∧ w'.cell? ⟨g1 + 1, 6, none⟩ = some (.slice B6 rws.length d6) ∧ w'.cell? ⟨g1 + 1, 7, none⟩ = some (.int .i64 cn) ∧ w'.cell? ⟨g1 + 1, 8, none⟩ = some (.int .u64 stm) ∧ w'.cell? ⟨g1 + 1, 9, none⟩ = some (.int .i64 en) ∧ w'.cell? ⟨g1 + 1, 10, none⟩ = some (.slice B10 nums.length d10)) (go_keep) (first | (go_at_call 7; refine (stratalaw17_num.calls code code _ rfl).mono ?_; rintro e w1 ⟨rfl, hd⟩; have hb := hd.below; have HV1 : Aside0 (Below w.heap.size w w1) := ⟨below_step (show Below w.heap.size w _ from (by first | exact HV.out | exact pw_below_drewN HV.out _ | exact below_drew1 HV.out | exact below_drew1 (below_drew1 HV.out))) hb⟩; have HU1 : Aside0 (Below W.heap.size W w1) := ⟨below_step (show Below W.heap.size W _ from (by first | exact Below.refl _ _ | exact pw_below_drewN (Below.refl _ _) _ | exact below_drew1 (Below.refl _ _) | exact below_drew1 (below_drew1 (Below.refl _ _)))) hb⟩; have s0 : w1.cell? ⟨g1, 0, none⟩ = some (.int .i64 cmd) := pw_cell_below HU1.out a0; have s1 : w1.cell? ⟨g1, 1, none⟩ = some (.int .i64 kind) := pw_cell_below HU1.out a1; have s2 : w1.cell? ⟨g1, 2, none⟩ = some (.int .i64 who) := pw_cell_below HU1.out a2; have s3 : w1.cell? ⟨g1, 3, none⟩ = some (.int .i64 code) := pw_cell_below HU1.out a3; have s4 : w1.cell? ⟨g1, 4, none⟩ = some (.int .i64 rc) := pw_cell_below HU1.out a4; have s5 : w1.cell? ⟨g1, 5, none⟩ = some (.slice A5 ns.length c5) := pw_cell_below HU1.out a5; have s6 : w1.cell? ⟨g1, 6, none⟩ = some (.slice A6 rws.length c6) := pw_cell_below HU1.out a6; have s7 : w1.cell? ⟨g1, 7, none⟩ = some (.int .i64 cn) := pw_cell_below HU1.out a7; have s8 : w1.cell? ⟨g1, 8, none⟩ = some (.int .u64 stm) := pw_cell_below HU1.out a8; have s9 : w1.cell? ⟨g1, 9, none⟩ = some (.int .i64 en) := pw_cell_below HU1.out a9; have s10 : w1.cell? ⟨g1, 10, none⟩ = some (.slice A10 nums.length c10) := pw_cell_below HU1.out a10; have t0 : w1.cell? ⟨g1 + 1, 0, none⟩ = some (.int .i64 cmd) := pw_cell_below HU1.out b0; have t1 : w1.cell? ⟨g1 + 1, 1, none⟩ = some (.int .i64 kind) := pw_cell_below HU1.out b1; have t2 : w1.cell? ⟨g1 + 1, 2, none⟩ = some (.int .i64 who) := pw_cell_below HU1.out b2; have t3 : w1.cell? ⟨g1 + 1, 3, none⟩ = some (.int .i64 code) := pw_cell_below HU1.out b3; have t4 : w1.cell? ⟨g1 + 1, 4, none⟩ = some (.int .i64 rc) := pw_cell_below HU1.out b4; have t5 : w1.cell? ⟨g1 + 1, 5, none⟩ = some (.slice B5 ns.length d5) := pw_cell_below HU1.out b5; have t6 : w1.cell? ⟨g1 + 1, 6, none⟩ = some (.slice B6 rws.length d6) := pw_cell_below HU1.out b6; have t7 : w1.cell? ⟨g1 + 1, 7, none⟩ = some (.int .i64 cn) := pw_cell_below HU1.out b7; have t8 : w1.cell? ⟨g1 + 1, 8, none⟩ = some (.int .u64 stm) := pw_cell_below HU1.out b8; have t9 : w1.cell? ⟨g1 + 1, 9, none⟩ = some (.int .i64 en) := pw_cell_below HU1.out b9; have t10 : w1.cell? ⟨g1 + 1, 10, none⟩ = some (.slice B10 nums.length d10) := pw_cell_below HU1.out b10; clear hb hd) | (go_at_call 32; refine (sameRes_calls _ rc cn stm en A5 c5 A6 c6 B5 d5 B6 d6 ns rws (Kd.C_below HC5.out (show Below w.heap.size w _ from (by first | exact HV1.out | exact pw_below_drewN HV1.out _ | exact below_drew1 HV1.out | exact below_drew1 (below_drew1 HV1.out)))) (Kd.C_below HC6.out (show Below w.heap.size w _ from (by first | exact HV1.out | exact pw_below_drewN HV1.out _ | exact below_drew1 HV1.out | exact below_drew1 (below_drew1 HV1.out)))) (Kd.C_below HD5.out (show Below w.heap.size w _ from (by first | exact HV1.out | exact pw_below_drewN HV1.out _ | exact below_drew1 HV1.out | exact below_drew1 (below_drew1 HV1.out)))) (Kd.C_below HD6.out (show Below w.heap.size w _ from (by first | exact HV1.out | exact pw_below_drewN HV1.out _ | exact below_drew1 HV1.out | exact below_drew1 (below_drew1 HV1.out)))) (okTab_of HM.out)).mono ?_; rintro e w2 ⟨rfl, hb⟩; have HV2 : Aside0 (Below w.heap.size w w2) := ⟨below_step (show Below w.heap.size w _ from (by first | exact HV1.out | exact pw_below_drewN HV1.out _ | exact below_drew1 HV1.out | exact below_drew1 (below_drew1 HV1.out))) hb⟩; have HU2 : Aside0 (Below W.heap.size W w2) := ⟨below_step (show Below W.heap.size W _ from (by first | exact HU1.out | exact pw_below_drewN HU1.out _ | exact below_drew1 HU1.out | exact below_drew1 (below_drew1 HU1.out))) hb⟩; have x0 : w2.cell? ⟨g1, 0, none⟩ = some (.int .i64 cmd) := pw_cell_below HU2.out a0; have x1 : w2.cell? ⟨g1, 1, none⟩ = some (.int .i64 kind) := pw_cell_below HU2.out a1; have x2 : w2.cell? ⟨g1, 2, none⟩ = some (.int .i64 who) := pw_cell_below HU2.out a2; have x3 : w2.cell? ⟨g1, 3, none⟩ = some (.int .i64 code) := pw_cell_below HU2.out a3; have x4 : w2.cell? ⟨g1, 4, none⟩ = some (.int .i64 rc) := pw_cell_below HU2.out a4; have x5 : w2.cell? ⟨g1, 5, none⟩ = some (.slice A5 ns.length c5) := pw_cell_below HU2.out a5; have x6 : w2.cell? ⟨g1, 6, none⟩ = some (.slice A6 rws.length c6) := pw_cell_below HU2.out a6; have x7 : w2.cell? ⟨g1, 7, none⟩ = some (.int .i64 cn) := pw_cell_below HU2.out a7; have x8 : w2.cell? ⟨g1, 8, none⟩ = some (.int .u64 stm) := pw_cell_below HU2.out a8; have x9 : w2.cell? ⟨g1, 9, none⟩ = some (.int .i64 en) := pw_cell_below HU2.out a9; have x10 : w2.cell? ⟨g1, 10, none⟩ = some (.slice A10 nums.length c10) := pw_cell_below HU2.out a10; have y0 : w2.cell? ⟨g1 + 1, 0, none⟩ = some (.int .i64 cmd) := pw_cell_below HU2.out b0; have y1 : w2.cell? ⟨g1 + 1, 1, none⟩ = some (.int .i64 kind) := pw_cell_below HU2.out b1; have y2 : w2.cell? ⟨g1 + 1, 2, none⟩ = some (.int .i64 who) := pw_cell_below HU2.out b2; have y3 : w2.cell? ⟨g1 + 1, 3, none⟩ = some (.int .i64 code) := pw_cell_below HU2.out b3; have y4 : w2.cell? ⟨g1 + 1, 4, none⟩ = some (.int .i64 rc) := pw_cell_below HU2.out b4; have y5 : w2.cell? ⟨g1 + 1, 5, none⟩ = some (.slice B5 ns.length d5) := pw_cell_below HU2.out b5; have y6 : w2.cell? ⟨g1 + 1, 6, none⟩ = some (.slice B6 rws.length d6) := pw_cell_below HU2.out b6; have y7 : w2.cell? ⟨g1 + 1, 7, none⟩ = some (.int .i64 cn) := pw_cell_below HU2.out b7; have y8 : w2.cell? ⟨g1 + 1, 8, none⟩ = some (.int .u64 stm) := pw_cell_below HU2.out b8; have y9 : w2.cell? ⟨g1 + 1, 9, none⟩ = some (.int .i64 en) := pw_cell_below HU2.out b9; have y10 : w2.cell? ⟨g1 + 1, 10, none⟩ = some (.slice B10 nums.length d10) := pw_cell_below HU2.out b10; clear hb))
        all_goals (go_wp2_with fail; go_meet)
        all_goals (exact ⟨rfl, HV2, HU2⟩)
      case rest =>
        obtain ⟨rfl, HV1, HU1⟩ := hcut
        have s10 : wc.cell? ⟨g1, 10, none⟩ = some (.slice A10 nums.length c10) := pw_cell_below HU1.out a10
        have t10 : wc.cell? ⟨g1 + 1, 10, none⟩ = some (.slice B10 nums.length d10) := pw_cell_below HU1.out b10
        clear a0 a1 a2 a3 a4 a5 a6 a7 a8 a9 a10 b0 b1 b2 b3 b4 b5 b6 b7 b8 b9 b10 K1 K2 HV HU1
        have HNl := Aside0.mk HM.out.nl
        dsimp only at HNl
        go_wp2
        go_loopw [8] (fun v8 wq => ∃ (j m : Nat), j ≤ nums.length ∧ v8 = .int .i64 (j : Int) ∧ wq = wc.drewN m) (fun v8 _ => nums.length - (intOf v8).toNat)
        case atStart => exact ⟨0, 0, Nat.zero_le _, rfl, rfl⟩
        case round =>
          obtain ⟨j, m, hj, rfl, rfl⟩ := hrel
          have hj9 : j ≤ 1000000000 := Nat.le_trans hj HNl.out
          by_cases hjt : j < nums.length
          · have d3 : decide ((j : Int) < (nums.length : Int)) = true := decide_eq_true (by omega)
            have q9 : (j : Int) < (nums.length : Int) := by omega
            obtain ⟨ae, ea, h0⟩ := int_lt HC10.out j hjt
            obtain ⟨be, eb, h1⟩ := int_lt HD10.out j hjt
            cases ea
            cases eb
            replace h0 := (HV1.out.cell (World.block_lt_of_cell? w _ h0)).trans h0
            replace h1 := (HV1.out.cell (World.block_lt_of_cell? w _ h1)).trans h1
            generalize rd nums (j : Int) = y at *
            go_wp2_with fail
            go_quiet (fail)
            go_wp2
            go_roundw
            case rel => exact ⟨j + 1, _, by omega, by go_num, rfl⟩
            case measure => simp [intOf]; omega
          · have d3 : decide ((j : Int) < (nums.length : Int)) = false := decide_eq_false (by omega)
            go_wp2
            go_roundw
            case rel => exact ⟨k + 1, by omega, by go_num, ⟨pw_below_drewN HV1.out m⟩⟩
            case measure => simp [intOf]; omega
    · have d1 : decide ((k : Int) < (n : Int)) = false := decide_eq_false (by omega)
      go_wp2
      go_ret
      exact ⟨rfl, HW.out⟩

-- NOT PRINTED: function 3 (stratalaw17_StorePrints)

end Go.Proofs.YtggbhdcgfnjogaaDoor.PSp
