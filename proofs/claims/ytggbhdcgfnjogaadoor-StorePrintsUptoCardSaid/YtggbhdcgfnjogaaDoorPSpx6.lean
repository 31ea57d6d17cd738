-- Laid by inj.py, a program of this session, which runs the kit's print tool beside contracts typed by hand. Not trusted: Lean checks it.
import Derived.Test.YtggbhdcgfnjogaaDoorPSpx0
import Derived.Test.YtggbhdcgfnjogaaDoorPSpx4
import Derived.Test.YtggbhdcgfnjogaaDoorPSpx5
namespace Go.Proofs.YtggbhdcgfnjogaaDoor.PSp
open Go.RowKit Go.Proofs.YtggbhdcgfnjogaaDoorW.PrintWords Go.Proofs.YtggbhdcgfnjogaaDoorW.PrintLast Go.Proofs.YtggbhdcgfnjogaaDoorW.PrintMore
attribute [local go_sem] max2_int min2_int max_two min_two max_three min_three max_four min_four   -- for this text's walks alone
set_option linter.unusedVariables false
set_option linter.unusedSimpArgs false

/-! ### strataref17_Print: function 9 -/
mutual
def strataref17_Print.l0 : Nat → List (S36) → ByteArray → Int → Option (ByteArray)
  | 0, _, _, _ => none
  | k + 1, x0, x3, x4 => if x4 < (x0.length : Int) then (if 0 ≤ x4 then ((strataref17_digits.f k ((rd_T36 x0 x4).f0)).bind fun t134 => (if x3.size + t134.size ≤ 9223372036854775807 then (if (x3 ++ t134).size + 1 ≤ 9223372036854775807 then ((strataref17_head.f k ((rd_T36 x0 x4).f1) ((rd_T36 x0 x4).f2)).bind fun t135 => (if ((x3 ++ t134) ++ (⟨#[32]⟩ : ByteArray)).size + t135.size ≤ 9223372036854775807 then (if (((x3 ++ t134) ++ (⟨#[32]⟩ : ByteArray)) ++ t135).size + 1 ≤ 9223372036854775807 then ((strataref17_code.f k ((rd_T36 x0 x4).f3)).bind fun t136 => (if ((((x3 ++ t134) ++ (⟨#[32]⟩ : ByteArray)) ++ t135) ++ (⟨#[32]⟩ : ByteArray)).size + t136.size ≤ 9223372036854775807 then (if ((rd_T36 x0 x4).f1) = 1 then ((strataref17_result.f k ((rd_T36 x0 x4).f0) ((rd_T36 x0 x4).f1) ((rd_T36 x0 x4).f2) ((rd_T36 x0 x4).f3) ((rd_T36 x0 x4).f4.f0) ((rd_T36 x0 x4).f4.f1) ((rd_T36 x0 x4).f4.f2) ((rd_T36 x0 x4).f4.f3) ((rd_T36 x0 x4).f4.f4) ((rd_T36 x0 x4).f4.f5) ((rd_T36 x0 x4).f5)).bind fun t137 => (if (((((x3 ++ t134) ++ (⟨#[32]⟩ : ByteArray)) ++ t135) ++ (⟨#[32]⟩ : ByteArray)) ++ t136).size + t137.size ≤ 9223372036854775807 then (strataref17_Print.l0 k x0 ((((((x3 ++ t134) ++ (⟨#[32]⟩ : ByteArray)) ++ t135) ++ (⟨#[32]⟩ : ByteArray)) ++ t136) ++ t137) (wrap64 (x4 + 1))) else (none))) else (strataref17_Print.l1 k x0 (((((x3 ++ t134) ++ (⟨#[32]⟩ : ByteArray)) ++ t135) ++ (⟨#[32]⟩ : ByteArray)) ++ t136) x4 0 ((rd_T36 x0 x4).f0) ((rd_T36 x0 x4).f1) ((rd_T36 x0 x4).f2) ((rd_T36 x0 x4).f3) ((rd_T36 x0 x4).f4.f0) ((rd_T36 x0 x4).f4.f1) ((rd_T36 x0 x4).f4.f2) ((rd_T36 x0 x4).f4.f3) ((rd_T36 x0 x4).f4.f4) ((rd_T36 x0 x4).f4.f5) ((rd_T36 x0 x4).f5))) else (none))) else (none)) else (none))) else (none)) else (none))) else (none)) else (some x3)
def strataref17_Print.l1 : Nat → List (S36) → ByteArray → Int → Int → Int → Int → Int → Int → Int → List ByteArray → List (List (S84)) → Int → Int → Int → List Int → Option (ByteArray)
  | 0, _, _, _, _, _, _, _, _, _, _, _, _, _, _, _ => none
  | k + 1, x0, x3, x4, x6, x134000, x134001, x134002, x134003, x134004, x134005, x134006, x134007, x134008, x134009, x134010 => if x6 < (x134010.length : Int) then (if x3.size + 1 ≤ 9223372036854775807 then (if 0 ≤ x6 then ((strataref17_digits.f k (rd x134010 x6)).bind fun t139 => (if (x3 ++ (⟨#[32]⟩ : ByteArray)).size + t139.size ≤ 9223372036854775807 then (strataref17_Print.l1 k x0 ((x3 ++ (⟨#[32]⟩ : ByteArray)) ++ t139) x4 (wrap64 (x6 + 1)) x134000 x134001 x134002 x134003 x134004 x134005 x134006 x134007 x134008 x134009 x134010) else (none))) else (none)) else (none)) else (if x3.size + 1 ≤ 9223372036854775807 then (strataref17_Print.l0 k x0 (x3 ++ (⟨#[10]⟩ : ByteArray)) (wrap64 (x4 + 1))) else (none))
end
def strataref17_Print.f (k : Nat) (l0 : List (S36)) : Option (ByteArray) := strataref17_Print.l0 k l0 (⟨#[]⟩ : ByteArray) 0
theorem strataref17_Print.mono_l : ∀ k, (∀ y0 y1 y2, LeO (strataref17_Print.l0 k y0 y1 y2) (strataref17_Print.l0 (k + 1) y0 y1 y2)) ∧ (∀ y0 y1 y2 y3 y4 y5 y6 y7 y8 y9 y10 y11 y12 y13 y14, LeO (strataref17_Print.l1 k y0 y1 y2 y3 y4 y5 y6 y7 y8 y9 y10 y11 y12 y13 y14) (strataref17_Print.l1 (k + 1) y0 y1 y2 y3 y4 y5 y6 y7 y8 y9 y10 y11 y12 y13 y14))
  | 0 => ⟨fun _ _ _ r h => by simp [strataref17_Print.l0] at h, fun _ _ _ _ _ _ _ _ _ _ _ _ _ _ _ r h => by simp [strataref17_Print.l1] at h⟩
  | k + 1 => by
    obtain ⟨ih0, ih1⟩ := strataref17_Print.mono_l k
    refine ⟨?_, ?_⟩
    · intro y0 y1 y2
      unfold strataref17_Print.l0
      repeat' first
      | (with_reducible exact ih0 _ _ _)
      | (with_reducible exact ih1 _ _ _ _ _ _ _ _ _ _ _ _ _ _ _)
      | (with_reducible exact strataref17_code.mono _ _)
      | (with_reducible exact strataref17_digits.mono _ _)
      | (with_reducible exact strataref17_head.mono _ _ _)
      | (with_reducible exact strataref17_result.mono _ _ _ _ _ _ _ _ _ _ _ _)
      | (with_reducible exact LeO.refl _)
      | (with_reducible exact LeO.none _)
      | (with_reducible refine LeO.ite ?_ ?_)
      | (with_reducible refine LeO.bind ?_ (fun _ => ?_))
      | exact ih0 _ _ _
      | exact ih1 _ _ _ _ _ _ _ _ _ _ _ _ _ _ _
      | exact strataref17_code.mono _ _
      | exact strataref17_digits.mono _ _
      | exact strataref17_head.mono _ _ _
      | exact strataref17_result.mono _ _ _ _ _ _ _ _ _ _ _ _
      | exact LeO.none _
      | refine LeO.ite ?_ ?_
      | refine LeO.bind ?_ (fun _ => ?_)
    · intro y0 y1 y2 y3 y4 y5 y6 y7 y8 y9 y10 y11 y12 y13 y14
      unfold strataref17_Print.l1
      repeat' first
      | (with_reducible exact ih0 _ _ _)
      | (with_reducible exact ih1 _ _ _ _ _ _ _ _ _ _ _ _ _ _ _)
      | (with_reducible exact strataref17_code.mono _ _)
      | (with_reducible exact strataref17_digits.mono _ _)
      | (with_reducible exact strataref17_head.mono _ _ _)
      | (with_reducible exact strataref17_result.mono _ _ _ _ _ _ _ _ _ _ _ _)
      | (with_reducible exact LeO.refl _)
      | (with_reducible exact LeO.none _)
      | (with_reducible refine LeO.ite ?_ ?_)
      | (with_reducible refine LeO.bind ?_ (fun _ => ?_))
      | exact ih0 _ _ _
      | exact ih1 _ _ _ _ _ _ _ _ _ _ _ _ _ _ _
      | exact strataref17_code.mono _ _
      | exact strataref17_digits.mono _ _
      | exact strataref17_head.mono _ _ _
      | exact strataref17_result.mono _ _ _ _ _ _ _ _ _ _ _ _
      | exact LeO.none _
      | refine LeO.ite ?_ ?_
      | refine LeO.bind ?_ (fun _ => ?_)
theorem strataref17_Print.mono : ∀ a0 k, LeO (strataref17_Print.f k a0) (strataref17_Print.f (k + 1) a0) := by
  intro a0 k
  obtain ⟨ih0, ih1⟩ := strataref17_Print.mono_l k
  unfold strataref17_Print.f
  repeat' first
      | (with_reducible exact ih0 _ _ _)
      | (with_reducible exact ih1 _ _ _ _ _ _ _ _ _ _ _ _ _ _ _)
      | (with_reducible exact strataref17_code.mono _ _)
      | (with_reducible exact strataref17_digits.mono _ _)
      | (with_reducible exact strataref17_head.mono _ _ _)
      | (with_reducible exact strataref17_result.mono _ _ _ _ _ _ _ _ _ _ _ _)
      | (with_reducible exact LeO.refl _)
      | (with_reducible exact LeO.none _)
      | (with_reducible refine LeO.ite ?_ ?_)
      | (with_reducible refine LeO.bind ?_ (fun _ => ?_))
      | exact ih0 _ _ _
      | exact ih1 _ _ _ _ _ _ _ _ _ _ _ _ _ _ _
      | exact strataref17_code.mono _ _
      | exact strataref17_digits.mono _ _
      | exact strataref17_head.mono _ _ _
      | exact strataref17_result.mono _ _ _ _ _ _ _ _ _ _ _ _
      | exact LeO.none _
      | refine LeO.ite ?_ ?_
      | refine LeO.bind ?_ (fun _ => ?_)
def strataref17_Print.T6 : Bool × List (List Nat × List Nat) := (true, [([], []), ([], []), ([1], [1]), ([2], [2]), ([0, 3], [0, 3]), ([4], [4]), ([], []), ([6], [6]), ([], []), ([8], [8]), ([7, 9, 3], [7, 9]), ([5, 10], [5, 10]), ([11], [11]), ([], []), ([13], [13]), ([14, 10], [14]), ([12, 15], [12, 15]), ([16, 15, 0, 1, 2, 3, 4, 5, 6, 7, 8, 9, 10, 11, 12, 13, 14, 15, 16], [0, 16])])
def strataref17_Print.B6 : List Nat := [0, 0, 2, 6, 15, 31, 0, 64, 0, 256, 974, 2047, 4095, 0, 8192, 26574, 65535, 131071]
theorem strataref17_Print.tab6 : rtab .any (opsOf Tryd.f9 6) = strataref17_Print.T6 := by kernel_rfl
theorem strataref17_Print.bits6 : waitsOk strataref17_Print.T6.2 strataref17_Print.B6 = true := by kernel_rfl
set_option maxHeartbeats 8000000 in
set_option maxRecDepth 100000 in
theorem strataref17_Print.calls (k : Nat) (A0 : Option Addr) (c0 : Nat) (l0 : List (S36)) (r : ByteArray) (w : World) (hr0 : Kd.C k36 w A0 l0.length l0) (hc0 : l0.length ≤ c0) (h : strataref17_Print.f k l0 = some r) :
    Calls Tryd.prog 9 #[.slice A0 l0.length c0] w fun e w' => e = .returned (.string r) ∧ Below w.heap.size w w' := by
  have hu36 := Tryd.underlying36
  have HR0 := Aside0.mk hr0
  have HC0 := Aside0.mk hc0
  clear hr0 hc0
  have HB := Aside0.mk (Below.refl w.heap.size w)
  have H : (strataref17_Print.l0 k l0 (⟨#[]⟩ : ByteArray) 0) = some r := h
  clear h
  have H' := Aside0.mk H
  clear H
  go_enter Tryd.func9, Tryd.ntmps9
  go_wp2
  go_loopg [3, 4] k (fun kq v3 v4 w' => ∃ (x3_1 : ByteArray) (x4_1 : Int), v3 = .string x3_1 ∧ v4 = .int .i64 x4_1 ∧ Aside0 (strataref17_Print.l0 kq l0 x3_1 x4_1 = some r) ∧ Aside0 (kq ≤ k) ∧ Aside0 (Below w.heap.size w w'))
  case atStart => exact ⟨((⟨#[]⟩ : ByteArray)), (0), (by first | rfl | (simp; done) | (simp [*]; done)), (by first | rfl | (simp; done) | (simp [*]; done)), H', ⟨Nat.le_refl _⟩, ⟨by repeat (first | (with_reducible first | exact HB.out | apply below_alloc | apply pw_below_drewN | apply below_drew1) | exact HB.out)⟩⟩
  case round =>
    clear H'
    obtain ⟨x3_1, x4_1, rfl, rfl, HA, HK1, HB⟩ := hrel
    cases gk with
    | zero => exact absurd HA.out (by simp [strataref17_Print.l0])
    | succ k1 =>
      have H := HA.out
      clear HA
      simp only [strataref17_Print.l0] at H
      by_cases c2 : x4_1 < (l0.length : Int)
      · rw [if_pos c2] at H
        have c2b0 : decide (x4_1 < (l0.length : Int)) = true := decide_eq_true c2
        clear c2
        by_cases c3 : 0 ≤ x4_1
        · rw [if_pos c3] at H
          have c3b0 : decide (0 ≤ x4_1) = true := decide_eq_true c3
          clear c3
          replace H := Option.bind_eq_some_iff.mp H
          obtain ⟨t134, A40, H⟩ := H
          replace H : (if x3_1.size + t134.size ≤ 9223372036854775807 then (if (x3_1 ++ t134).size + 1 ≤ 9223372036854775807 then ((strataref17_head.f k1 ((rd_T36 l0 x4_1).f1) ((rd_T36 l0 x4_1).f2)).bind fun t135 => (if ((x3_1 ++ t134) ++ (⟨#[32]⟩ : ByteArray)).size + t135.size ≤ 9223372036854775807 then (if (((x3_1 ++ t134) ++ (⟨#[32]⟩ : ByteArray)) ++ t135).size + 1 ≤ 9223372036854775807 then ((strataref17_code.f k1 ((rd_T36 l0 x4_1).f3)).bind fun t136 => (if ((((x3_1 ++ t134) ++ (⟨#[32]⟩ : ByteArray)) ++ t135) ++ (⟨#[32]⟩ : ByteArray)).size + t136.size ≤ 9223372036854775807 then (if ((rd_T36 l0 x4_1).f1) = 1 then ((strataref17_result.f k1 ((rd_T36 l0 x4_1).f0) ((rd_T36 l0 x4_1).f1) ((rd_T36 l0 x4_1).f2) ((rd_T36 l0 x4_1).f3) ((rd_T36 l0 x4_1).f4.f0) ((rd_T36 l0 x4_1).f4.f1) ((rd_T36 l0 x4_1).f4.f2) ((rd_T36 l0 x4_1).f4.f3) ((rd_T36 l0 x4_1).f4.f4) ((rd_T36 l0 x4_1).f4.f5) ((rd_T36 l0 x4_1).f5)).bind fun t137 => (if (((((x3_1 ++ t134) ++ (⟨#[32]⟩ : ByteArray)) ++ t135) ++ (⟨#[32]⟩ : ByteArray)) ++ t136).size + t137.size ≤ 9223372036854775807 then (strataref17_Print.l0 k1 l0 ((((((x3_1 ++ t134) ++ (⟨#[32]⟩ : ByteArray)) ++ t135) ++ (⟨#[32]⟩ : ByteArray)) ++ t136) ++ t137) (wrap64 (x4_1 + 1))) else (none))) else (strataref17_Print.l1 k1 l0 (((((x3_1 ++ t134) ++ (⟨#[32]⟩ : ByteArray)) ++ t135) ++ (⟨#[32]⟩ : ByteArray)) ++ t136) x4_1 0 ((rd_T36 l0 x4_1).f0) ((rd_T36 l0 x4_1).f1) ((rd_T36 l0 x4_1).f2) ((rd_T36 l0 x4_1).f3) ((rd_T36 l0 x4_1).f4.f0) ((rd_T36 l0 x4_1).f4.f1) ((rd_T36 l0 x4_1).f4.f2) ((rd_T36 l0 x4_1).f4.f3) ((rd_T36 l0 x4_1).f4.f4) ((rd_T36 l0 x4_1).f4.f5) ((rd_T36 l0 x4_1).f5))) else (none))) else (none)) else (none))) else (none)) else (none)) = some r := H
          have A4 := Aside0.mk A40
          clear A40
          by_cases c5 : x3_1.size + t134.size ≤ 9223372036854775807
          · rw [if_pos c5] at H
            have c5b0 := eq_true c5
            have c5b1 : decide (x3_1.size + t134.size ≤ 9223372036854775807) = true := decide_eq_true c5
            try have c5b2 : (9223372036854775807 < x3_1.size + t134.size) = False := eq_false (Nat.not_lt.2 c5)
            by_cases c6 : (x3_1 ++ t134).size + 1 ≤ 9223372036854775807
            · rw [if_pos c6] at H
              have c6b0 := eq_true c6
              have c6b1 : decide ((x3_1 ++ t134).size + 1 ≤ 9223372036854775807) = true := decide_eq_true c6
              try have c6b2 : (9223372036854775807 < (x3_1 ++ t134).size + 1) = False := eq_false (Nat.not_lt.2 c6)
              try (have c6b3 := c6b2; simp only [ByteArray.size_append, ByteArray.size_extract] at c6b3)
              try (have c6b4 := c6b2; simp only [ByteArray.size_append, ByteArray.size_extract, bsz, List.size_toArray, List.length_cons, List.length_nil, Nat.reduceAdd] at c6b4)
              replace H := Option.bind_eq_some_iff.mp H
              obtain ⟨t135, A70, H⟩ := H
              replace H : (if ((x3_1 ++ t134) ++ (⟨#[32]⟩ : ByteArray)).size + t135.size ≤ 9223372036854775807 then (if (((x3_1 ++ t134) ++ (⟨#[32]⟩ : ByteArray)) ++ t135).size + 1 ≤ 9223372036854775807 then ((strataref17_code.f k1 ((rd_T36 l0 x4_1).f3)).bind fun t136 => (if ((((x3_1 ++ t134) ++ (⟨#[32]⟩ : ByteArray)) ++ t135) ++ (⟨#[32]⟩ : ByteArray)).size + t136.size ≤ 9223372036854775807 then (if ((rd_T36 l0 x4_1).f1) = 1 then ((strataref17_result.f k1 ((rd_T36 l0 x4_1).f0) ((rd_T36 l0 x4_1).f1) ((rd_T36 l0 x4_1).f2) ((rd_T36 l0 x4_1).f3) ((rd_T36 l0 x4_1).f4.f0) ((rd_T36 l0 x4_1).f4.f1) ((rd_T36 l0 x4_1).f4.f2) ((rd_T36 l0 x4_1).f4.f3) ((rd_T36 l0 x4_1).f4.f4) ((rd_T36 l0 x4_1).f4.f5) ((rd_T36 l0 x4_1).f5)).bind fun t137 => (if (((((x3_1 ++ t134) ++ (⟨#[32]⟩ : ByteArray)) ++ t135) ++ (⟨#[32]⟩ : ByteArray)) ++ t136).size + t137.size ≤ 9223372036854775807 then (strataref17_Print.l0 k1 l0 ((((((x3_1 ++ t134) ++ (⟨#[32]⟩ : ByteArray)) ++ t135) ++ (⟨#[32]⟩ : ByteArray)) ++ t136) ++ t137) (wrap64 (x4_1 + 1))) else (none))) else (strataref17_Print.l1 k1 l0 (((((x3_1 ++ t134) ++ (⟨#[32]⟩ : ByteArray)) ++ t135) ++ (⟨#[32]⟩ : ByteArray)) ++ t136) x4_1 0 ((rd_T36 l0 x4_1).f0) ((rd_T36 l0 x4_1).f1) ((rd_T36 l0 x4_1).f2) ((rd_T36 l0 x4_1).f3) ((rd_T36 l0 x4_1).f4.f0) ((rd_T36 l0 x4_1).f4.f1) ((rd_T36 l0 x4_1).f4.f2) ((rd_T36 l0 x4_1).f4.f3) ((rd_T36 l0 x4_1).f4.f4) ((rd_T36 l0 x4_1).f4.f5) ((rd_T36 l0 x4_1).f5))) else (none))) else (none)) else (none)) = some r := H
              have A7 := Aside0.mk A70
              clear A70
              by_cases c8 : ((x3_1 ++ t134) ++ (⟨#[32]⟩ : ByteArray)).size + t135.size ≤ 9223372036854775807
              · rw [if_pos c8] at H
                have c8b0 := eq_true c8
                have c8b1 : decide (((x3_1 ++ t134) ++ (⟨#[32]⟩ : ByteArray)).size + t135.size ≤ 9223372036854775807) = true := decide_eq_true c8
                try have c8b2 : (9223372036854775807 < ((x3_1 ++ t134) ++ (⟨#[32]⟩ : ByteArray)).size + t135.size) = False := eq_false (Nat.not_lt.2 c8)
                try (have c8b3 := c8b2; simp only [ByteArray.size_append, ByteArray.size_extract] at c8b3)
                try (have c8b4 := c8b2; simp only [ByteArray.size_append, ByteArray.size_extract, bsz, List.size_toArray, List.length_cons, List.length_nil, Nat.reduceAdd] at c8b4)
                by_cases c9 : (((x3_1 ++ t134) ++ (⟨#[32]⟩ : ByteArray)) ++ t135).size + 1 ≤ 9223372036854775807
                · rw [if_pos c9] at H
                  have c9b0 := eq_true c9
                  have c9b1 : decide ((((x3_1 ++ t134) ++ (⟨#[32]⟩ : ByteArray)) ++ t135).size + 1 ≤ 9223372036854775807) = true := decide_eq_true c9
                  try have c9b2 : (9223372036854775807 < (((x3_1 ++ t134) ++ (⟨#[32]⟩ : ByteArray)) ++ t135).size + 1) = False := eq_false (Nat.not_lt.2 c9)
                  try (have c9b3 := c9b2; simp only [ByteArray.size_append, ByteArray.size_extract] at c9b3)
                  try (have c9b4 := c9b2; simp only [ByteArray.size_append, ByteArray.size_extract, bsz, List.size_toArray, List.length_cons, List.length_nil, Nat.reduceAdd] at c9b4)
                  replace H := Option.bind_eq_some_iff.mp H
                  obtain ⟨t136, A100, H⟩ := H
                  replace H : (if ((((x3_1 ++ t134) ++ (⟨#[32]⟩ : ByteArray)) ++ t135) ++ (⟨#[32]⟩ : ByteArray)).size + t136.size ≤ 9223372036854775807 then (if ((rd_T36 l0 x4_1).f1) = 1 then ((strataref17_result.f k1 ((rd_T36 l0 x4_1).f0) ((rd_T36 l0 x4_1).f1) ((rd_T36 l0 x4_1).f2) ((rd_T36 l0 x4_1).f3) ((rd_T36 l0 x4_1).f4.f0) ((rd_T36 l0 x4_1).f4.f1) ((rd_T36 l0 x4_1).f4.f2) ((rd_T36 l0 x4_1).f4.f3) ((rd_T36 l0 x4_1).f4.f4) ((rd_T36 l0 x4_1).f4.f5) ((rd_T36 l0 x4_1).f5)).bind fun t137 => (if (((((x3_1 ++ t134) ++ (⟨#[32]⟩ : ByteArray)) ++ t135) ++ (⟨#[32]⟩ : ByteArray)) ++ t136).size + t137.size ≤ 9223372036854775807 then (strataref17_Print.l0 k1 l0 ((((((x3_1 ++ t134) ++ (⟨#[32]⟩ : ByteArray)) ++ t135) ++ (⟨#[32]⟩ : ByteArray)) ++ t136) ++ t137) (wrap64 (x4_1 + 1))) else (none))) else (strataref17_Print.l1 k1 l0 (((((x3_1 ++ t134) ++ (⟨#[32]⟩ : ByteArray)) ++ t135) ++ (⟨#[32]⟩ : ByteArray)) ++ t136) x4_1 0 ((rd_T36 l0 x4_1).f0) ((rd_T36 l0 x4_1).f1) ((rd_T36 l0 x4_1).f2) ((rd_T36 l0 x4_1).f3) ((rd_T36 l0 x4_1).f4.f0) ((rd_T36 l0 x4_1).f4.f1) ((rd_T36 l0 x4_1).f4.f2) ((rd_T36 l0 x4_1).f4.f3) ((rd_T36 l0 x4_1).f4.f4) ((rd_T36 l0 x4_1).f4.f5) ((rd_T36 l0 x4_1).f5))) else (none)) = some r := H
                  have A10 := Aside0.mk A100
                  clear A100
                  by_cases c11 : ((((x3_1 ++ t134) ++ (⟨#[32]⟩ : ByteArray)) ++ t135) ++ (⟨#[32]⟩ : ByteArray)).size + t136.size ≤ 9223372036854775807
                  · rw [if_pos c11] at H
                    have c11b0 := eq_true c11
                    have c11b1 : decide (((((x3_1 ++ t134) ++ (⟨#[32]⟩ : ByteArray)) ++ t135) ++ (⟨#[32]⟩ : ByteArray)).size + t136.size ≤ 9223372036854775807) = true := decide_eq_true c11
                    try have c11b2 : (9223372036854775807 < ((((x3_1 ++ t134) ++ (⟨#[32]⟩ : ByteArray)) ++ t135) ++ (⟨#[32]⟩ : ByteArray)).size + t136.size) = False := eq_false (Nat.not_lt.2 c11)
                    try (have c11b3 := c11b2; simp only [ByteArray.size_append, ByteArray.size_extract] at c11b3)
                    try (have c11b4 := c11b2; simp only [ByteArray.size_append, ByteArray.size_extract, bsz, List.size_toArray, List.length_cons, List.length_nil, Nat.reduceAdd] at c11b4)
                    by_cases c12 : ((rd_T36 l0 x4_1).f1) = 1
                    · rw [if_pos c12] at H
                      have c12b0 : (((rd_T36 l0 x4_1).f1) == 1) = true := beq_iff_eq.mpr c12
                      have c12b1 : (((rd_T36 l0 x4_1).f1) != 1) = false := bne_eq_false_iff_eq.mpr c12
                      clear c12
                      replace H := Option.bind_eq_some_iff.mp H
                      obtain ⟨t137, A130, H⟩ := H
                      replace H : (if (((((x3_1 ++ t134) ++ (⟨#[32]⟩ : ByteArray)) ++ t135) ++ (⟨#[32]⟩ : ByteArray)) ++ t136).size + t137.size ≤ 9223372036854775807 then (strataref17_Print.l0 k1 l0 ((((((x3_1 ++ t134) ++ (⟨#[32]⟩ : ByteArray)) ++ t135) ++ (⟨#[32]⟩ : ByteArray)) ++ t136) ++ t137) (wrap64 (x4_1 + 1))) else (none)) = some r := H
                      have A13 := Aside0.mk A130
                      clear A130
                      by_cases c14 : (((((x3_1 ++ t134) ++ (⟨#[32]⟩ : ByteArray)) ++ t135) ++ (⟨#[32]⟩ : ByteArray)) ++ t136).size + t137.size ≤ 9223372036854775807
                      · rw [if_pos c14] at H
                        have c14b0 := eq_true c14
                        have c14b1 : decide ((((((x3_1 ++ t134) ++ (⟨#[32]⟩ : ByteArray)) ++ t135) ++ (⟨#[32]⟩ : ByteArray)) ++ t136).size + t137.size ≤ 9223372036854775807) = true := decide_eq_true c14
                        try have c14b2 : (9223372036854775807 < (((((x3_1 ++ t134) ++ (⟨#[32]⟩ : ByteArray)) ++ t135) ++ (⟨#[32]⟩ : ByteArray)) ++ t136).size + t137.size) = False := eq_false (Nat.not_lt.2 c14)
                        try (have c14b3 := c14b2; simp only [ByteArray.size_append, ByteArray.size_extract] at c14b3)
                        try (have c14b4 := c14b2; simp only [ByteArray.size_append, ByteArray.size_extract, bsz, List.size_toArray, List.length_cons, List.length_nil, Nat.reduceAdd] at c14b4)
                        have H' := Aside0.mk H
                        clear H
                        have p132 : 0 ≤ (x4_1 : Int) := of_decide_eq_true (by first | (with_reducible assumption) | assumption)
                        have q132 : x4_1 < (l0.length : Int) := of_decide_eq_true (by first | (with_reducible assumption) | assumption)
                        obtain ⟨ad132, A132_5, c132_5, A132_6, c132_6, A132_10, c132_10, e132, hx132_0, hx132_1, hx132_2, hx132_3, hx132_4, hx132_5, hx132_6, hx132_7, hx132_8, hx132_9, hx132_10, hl132_5, hi132_5, hl132_6, hi132_6, hl132_10, hi132_10⟩ := at_T36 HR0.out x4_1 p132 q132
                        cases e132
                        replace hx132_0 := (HB.out.cell (World.block_lt_of_cell? w _ hx132_0)).trans hx132_0
                        replace hx132_1 := (HB.out.cell (World.block_lt_of_cell? w _ hx132_1)).trans hx132_1
                        replace hx132_2 := (HB.out.cell (World.block_lt_of_cell? w _ hx132_2)).trans hx132_2
                        replace hx132_3 := (HB.out.cell (World.block_lt_of_cell? w _ hx132_3)).trans hx132_3
                        replace hx132_4 := (HB.out.cell (World.block_lt_of_cell? w _ hx132_4)).trans hx132_4
                        replace hx132_5 := (HB.out.cell (World.block_lt_of_cell? w _ hx132_5)).trans hx132_5
                        replace hx132_6 := (HB.out.cell (World.block_lt_of_cell? w _ hx132_6)).trans hx132_6
                        replace hx132_7 := (HB.out.cell (World.block_lt_of_cell? w _ hx132_7)).trans hx132_7
                        replace hx132_8 := (HB.out.cell (World.block_lt_of_cell? w _ hx132_8)).trans hx132_8
                        replace hx132_9 := (HB.out.cell (World.block_lt_of_cell? w _ hx132_9)).trans hx132_9
                        replace hx132_10 := (HB.out.cell (World.block_lt_of_cell? w _ hx132_10)).trans hx132_10
                        have HR132_5 := Aside0.mk hi132_5
                        have HC132_5 := Aside0.mk hl132_5
                        clear hi132_5 hl132_5
                        have HR132_6 := Aside0.mk hi132_6
                        have HC132_6 := Aside0.mk hl132_6
                        clear hi132_6 hl132_6
                        have HR132_10 := Aside0.mk hi132_10
                        have HC132_10 := Aside0.mk hl132_10
                        clear hi132_10 hl132_10
                        replace p132 := eq_true p132
                        replace q132 := eq_true q132
                        try go_wp2_with (first | ((with_reducible refine gate_dst (N := 5) rfl ?_); refine box_event ?hg (N := 5) ?hd (cs := #[.int .i64 0, .int .i64 0, .int .i64 0, .int .i64 0, .int .i64 0, .slice none 0 0, .slice none 0 0, .int .i64 0, .int .u64 0, .int .i64 0, .slice none 0 0]) (t := 36) ?hr ?_; (case hd => rfl); (case hg => rfl); (case hr => first | (go_simp; done) | (go_simp; rfl)); intro gb133 hg w15 hbox hb; have n0_ := Aside0.mk (below_step (by repeat (first | (with_reducible first | exact HB.out | apply below_alloc | apply pw_below_drewN | apply below_drew1) | exact HB.out)) hb); have n1_ := Aside0.mk (hbox); have n2_ := Aside0.mk ((by rw [hg]; exact (below_size (by repeat (first | (with_reducible first | exact HB.out | apply below_alloc | apply pw_below_drewN | apply below_drew1) | exact HB.out))) : w.heap.size ≤ gb133)); have n3_ := Aside0.mk ((by rw [hg]; exact (below_size (by repeat (first | (with_reducible first | exact HB.out | apply below_alloc | apply pw_below_drewN | apply below_drew1) | exact HB.out))) : w.heap.size ≤ gb133)); clear HB; have HB := n0_; have BK133 := n1_; have GW133 := n2_; have GE133 := n3_; clear n0_ n1_ n2_ n3_; clear hb hbox hg; have hcz16_0 : w15.cell? ⟨gb133, 0, none⟩ = some (.int .i64 0) := (blk_cell BK133.out 0).trans rfl; have hcz16_1 : w15.cell? ⟨gb133, 1, none⟩ = some (.int .i64 0) := (blk_cell BK133.out 1).trans rfl; have hcz16_2 : w15.cell? ⟨gb133, 2, none⟩ = some (.int .i64 0) := (blk_cell BK133.out 2).trans rfl; have hcz16_3 : w15.cell? ⟨gb133, 3, none⟩ = some (.int .i64 0) := (blk_cell BK133.out 3).trans rfl; have hcz16_4 : w15.cell? ⟨gb133, 4, none⟩ = some (.int .i64 0) := (blk_cell BK133.out 4).trans rfl; have hcz16_5 : w15.cell? ⟨gb133, 5, none⟩ = some (.slice none 0 0) := (blk_cell BK133.out 5).trans rfl; have hcz16_6 : w15.cell? ⟨gb133, 6, none⟩ = some (.slice none 0 0) := (blk_cell BK133.out 6).trans rfl; have hcz16_7 : w15.cell? ⟨gb133, 7, none⟩ = some (.int .i64 0) := (blk_cell BK133.out 7).trans rfl; have hcz16_8 : w15.cell? ⟨gb133, 8, none⟩ = some (.int .u64 0) := (blk_cell BK133.out 8).trans rfl; have hcz16_9 : w15.cell? ⟨gb133, 9, none⟩ = some (.int .i64 0) := (blk_cell BK133.out 9).trans rfl; have hcz16_10 : w15.cell? ⟨gb133, 10, none⟩ = some (.slice none 0 0) := (blk_cell BK133.out 10).trans rfl; have hfz16_0 := blk_frozen BK133.out 0; have hfz16_1 := blk_frozen BK133.out 1; have hfz16_2 := blk_frozen BK133.out 2; have hfz16_3 := blk_frozen BK133.out 3; have hfz16_4 := blk_frozen BK133.out 4; have hfz16_5 := blk_frozen BK133.out 5; have hfz16_6 := blk_frozen BK133.out 6; have hfz16_7 := blk_frozen BK133.out 7; have hfz16_8 := blk_frozen BK133.out 8; have hfz16_9 := blk_frozen BK133.out 9; have hfz16_10 := blk_frozen BK133.out 10))
                        have n0_ : Aside0 ((((((((((((w15.setCell ⟨gb133, 0, none⟩ (.int .i64 ((rd_T36 l0 x4_1).f0))).setCell ⟨gb133, 1, none⟩ (.int .i64 ((rd_T36 l0 x4_1).f1))).setCell ⟨gb133, 2, none⟩ (.int .i64 ((rd_T36 l0 x4_1).f2))).setCell ⟨gb133, 3, none⟩ (.int .i64 ((rd_T36 l0 x4_1).f3))).setCell ⟨gb133, 4, none⟩ (.int .i64 ((rd_T36 l0 x4_1).f4.f0))).setCell ⟨gb133, 5, none⟩ (.slice A132_5 ((rd_T36 l0 x4_1).f4.f1).length c132_5)).setCell ⟨gb133, 6, none⟩ (.slice A132_6 ((rd_T36 l0 x4_1).f4.f2).length c132_6)).setCell ⟨gb133, 7, none⟩ (.int .i64 ((rd_T36 l0 x4_1).f4.f3))).setCell ⟨gb133, 8, none⟩ (.int .u64 ((rd_T36 l0 x4_1).f4.f4))).setCell ⟨gb133, 9, none⟩ (.int .i64 ((rd_T36 l0 x4_1).f4.f5))).setCell ⟨gb133, 10, none⟩ (.slice A132_10 ((rd_T36 l0 x4_1).f5).length c132_10)).heap[gb133]? = some (.cells #[.int .i64 ((rd_T36 l0 x4_1).f0), .int .i64 ((rd_T36 l0 x4_1).f1), .int .i64 ((rd_T36 l0 x4_1).f2), .int .i64 ((rd_T36 l0 x4_1).f3), .int .i64 ((rd_T36 l0 x4_1).f4.f0), .slice A132_5 ((rd_T36 l0 x4_1).f4.f1).length c132_5, .slice A132_6 ((rd_T36 l0 x4_1).f4.f2).length c132_6, .int .i64 ((rd_T36 l0 x4_1).f4.f3), .int .u64 ((rd_T36 l0 x4_1).f4.f4), .int .i64 ((rd_T36 l0 x4_1).f4.f5), .slice A132_10 ((rd_T36 l0 x4_1).f5).length c132_10] 36 (0, 0))) := ⟨by (with_reducible repeat (first | refine blk_drewN ?_ _ | refine blk_drew ?_ | refine blk_alloc ?_ _)); refine blk_put (cs := #[.int .i64 ((rd_T36 l0 x4_1).f0), .int .i64 ((rd_T36 l0 x4_1).f1), .int .i64 ((rd_T36 l0 x4_1).f2), .int .i64 ((rd_T36 l0 x4_1).f3), .int .i64 ((rd_T36 l0 x4_1).f4.f0), .slice A132_5 ((rd_T36 l0 x4_1).f4.f1).length c132_5, .slice A132_6 ((rd_T36 l0 x4_1).f4.f2).length c132_6, .int .i64 ((rd_T36 l0 x4_1).f4.f3), .int .u64 ((rd_T36 l0 x4_1).f4.f4), .int .i64 ((rd_T36 l0 x4_1).f4.f5), .slice none 0 0]) ?_ 10 _ rfl; (with_reducible repeat (first | refine blk_drewN ?_ _ | refine blk_drew ?_ | refine blk_alloc ?_ _)); refine blk_put (cs := #[.int .i64 ((rd_T36 l0 x4_1).f0), .int .i64 ((rd_T36 l0 x4_1).f1), .int .i64 ((rd_T36 l0 x4_1).f2), .int .i64 ((rd_T36 l0 x4_1).f3), .int .i64 ((rd_T36 l0 x4_1).f4.f0), .slice A132_5 ((rd_T36 l0 x4_1).f4.f1).length c132_5, .slice A132_6 ((rd_T36 l0 x4_1).f4.f2).length c132_6, .int .i64 ((rd_T36 l0 x4_1).f4.f3), .int .u64 ((rd_T36 l0 x4_1).f4.f4), .int .i64 0, .slice none 0 0]) ?_ 9 _ rfl; (with_reducible repeat (first | refine blk_drewN ?_ _ | refine blk_drew ?_ | refine blk_alloc ?_ _)); refine blk_put (cs := #[.int .i64 ((rd_T36 l0 x4_1).f0), .int .i64 ((rd_T36 l0 x4_1).f1), .int .i64 ((rd_T36 l0 x4_1).f2), .int .i64 ((rd_T36 l0 x4_1).f3), .int .i64 ((rd_T36 l0 x4_1).f4.f0), .slice A132_5 ((rd_T36 l0 x4_1).f4.f1).length c132_5, .slice A132_6 ((rd_T36 l0 x4_1).f4.f2).length c132_6, .int .i64 ((rd_T36 l0 x4_1).f4.f3), .int .u64 0, .int .i64 0, .slice none 0 0]) ?_ 8 _ rfl; (with_reducible repeat (first | refine blk_drewN ?_ _ | refine blk_drew ?_ | refine blk_alloc ?_ _)); refine blk_put (cs := #[.int .i64 ((rd_T36 l0 x4_1).f0), .int .i64 ((rd_T36 l0 x4_1).f1), .int .i64 ((rd_T36 l0 x4_1).f2), .int .i64 ((rd_T36 l0 x4_1).f3), .int .i64 ((rd_T36 l0 x4_1).f4.f0), .slice A132_5 ((rd_T36 l0 x4_1).f4.f1).length c132_5, .slice A132_6 ((rd_T36 l0 x4_1).f4.f2).length c132_6, .int .i64 0, .int .u64 0, .int .i64 0, .slice none 0 0]) ?_ 7 _ rfl; (with_reducible repeat (first | refine blk_drewN ?_ _ | refine blk_drew ?_ | refine blk_alloc ?_ _)); refine blk_put (cs := #[.int .i64 ((rd_T36 l0 x4_1).f0), .int .i64 ((rd_T36 l0 x4_1).f1), .int .i64 ((rd_T36 l0 x4_1).f2), .int .i64 ((rd_T36 l0 x4_1).f3), .int .i64 ((rd_T36 l0 x4_1).f4.f0), .slice A132_5 ((rd_T36 l0 x4_1).f4.f1).length c132_5, .slice none 0 0, .int .i64 0, .int .u64 0, .int .i64 0, .slice none 0 0]) ?_ 6 _ rfl; (with_reducible repeat (first | refine blk_drewN ?_ _ | refine blk_drew ?_ | refine blk_alloc ?_ _)); refine blk_put (cs := #[.int .i64 ((rd_T36 l0 x4_1).f0), .int .i64 ((rd_T36 l0 x4_1).f1), .int .i64 ((rd_T36 l0 x4_1).f2), .int .i64 ((rd_T36 l0 x4_1).f3), .int .i64 ((rd_T36 l0 x4_1).f4.f0), .slice none 0 0, .slice none 0 0, .int .i64 0, .int .u64 0, .int .i64 0, .slice none 0 0]) ?_ 5 _ rfl; (with_reducible repeat (first | refine blk_drewN ?_ _ | refine blk_drew ?_ | refine blk_alloc ?_ _)); refine blk_put (cs := #[.int .i64 ((rd_T36 l0 x4_1).f0), .int .i64 ((rd_T36 l0 x4_1).f1), .int .i64 ((rd_T36 l0 x4_1).f2), .int .i64 ((rd_T36 l0 x4_1).f3), .int .i64 0, .slice none 0 0, .slice none 0 0, .int .i64 0, .int .u64 0, .int .i64 0, .slice none 0 0]) ?_ 4 _ rfl; (with_reducible repeat (first | refine blk_drewN ?_ _ | refine blk_drew ?_ | refine blk_alloc ?_ _)); refine blk_put (cs := #[.int .i64 ((rd_T36 l0 x4_1).f0), .int .i64 ((rd_T36 l0 x4_1).f1), .int .i64 ((rd_T36 l0 x4_1).f2), .int .i64 0, .int .i64 0, .slice none 0 0, .slice none 0 0, .int .i64 0, .int .u64 0, .int .i64 0, .slice none 0 0]) ?_ 3 _ rfl; (with_reducible repeat (first | refine blk_drewN ?_ _ | refine blk_drew ?_ | refine blk_alloc ?_ _)); refine blk_put (cs := #[.int .i64 ((rd_T36 l0 x4_1).f0), .int .i64 ((rd_T36 l0 x4_1).f1), .int .i64 0, .int .i64 0, .int .i64 0, .slice none 0 0, .slice none 0 0, .int .i64 0, .int .u64 0, .int .i64 0, .slice none 0 0]) ?_ 2 _ rfl; (with_reducible repeat (first | refine blk_drewN ?_ _ | refine blk_drew ?_ | refine blk_alloc ?_ _)); refine blk_put (cs := #[.int .i64 ((rd_T36 l0 x4_1).f0), .int .i64 0, .int .i64 0, .int .i64 0, .int .i64 0, .slice none 0 0, .slice none 0 0, .int .i64 0, .int .u64 0, .int .i64 0, .slice none 0 0]) ?_ 1 _ rfl; (with_reducible repeat (first | refine blk_drewN ?_ _ | refine blk_drew ?_ | refine blk_alloc ?_ _)); refine blk_put (cs := #[.int .i64 0, .int .i64 0, .int .i64 0, .int .i64 0, .int .i64 0, .slice none 0 0, .slice none 0 0, .int .i64 0, .int .u64 0, .int .i64 0, .slice none 0 0]) ?_ 0 _ rfl; (with_reducible repeat (first | refine blk_drewN ?_ _ | refine blk_drew ?_ | refine blk_alloc ?_ _)); exact BK133.out⟩
                        have n1_ : Aside0 (Below w.heap.size w (((((((((((w15.setCell ⟨gb133, 0, none⟩ (.int .i64 ((rd_T36 l0 x4_1).f0))).setCell ⟨gb133, 1, none⟩ (.int .i64 ((rd_T36 l0 x4_1).f1))).setCell ⟨gb133, 2, none⟩ (.int .i64 ((rd_T36 l0 x4_1).f2))).setCell ⟨gb133, 3, none⟩ (.int .i64 ((rd_T36 l0 x4_1).f3))).setCell ⟨gb133, 4, none⟩ (.int .i64 ((rd_T36 l0 x4_1).f4.f0))).setCell ⟨gb133, 5, none⟩ (.slice A132_5 ((rd_T36 l0 x4_1).f4.f1).length c132_5)).setCell ⟨gb133, 6, none⟩ (.slice A132_6 ((rd_T36 l0 x4_1).f4.f2).length c132_6)).setCell ⟨gb133, 7, none⟩ (.int .i64 ((rd_T36 l0 x4_1).f4.f3))).setCell ⟨gb133, 8, none⟩ (.int .u64 ((rd_T36 l0 x4_1).f4.f4))).setCell ⟨gb133, 9, none⟩ (.int .i64 ((rd_T36 l0 x4_1).f4.f5))).setCell ⟨gb133, 10, none⟩ (.slice A132_10 ((rd_T36 l0 x4_1).f5).length c132_10))) := ⟨by repeat (first | (with_reducible first | exact HB.out | apply below_alloc | apply pw_below_drewN | apply below_drew1 | refine below_set ?_ GE133.out) | exact HB.out)⟩
                        (try clear BK133)
                        (try clear HB)
                        generalize (((((((((((w15.setCell ⟨gb133, 0, none⟩ (.int .i64 ((rd_T36 l0 x4_1).f0))).setCell ⟨gb133, 1, none⟩ (.int .i64 ((rd_T36 l0 x4_1).f1))).setCell ⟨gb133, 2, none⟩ (.int .i64 ((rd_T36 l0 x4_1).f2))).setCell ⟨gb133, 3, none⟩ (.int .i64 ((rd_T36 l0 x4_1).f3))).setCell ⟨gb133, 4, none⟩ (.int .i64 ((rd_T36 l0 x4_1).f4.f0))).setCell ⟨gb133, 5, none⟩ (.slice A132_5 ((rd_T36 l0 x4_1).f4.f1).length c132_5)).setCell ⟨gb133, 6, none⟩ (.slice A132_6 ((rd_T36 l0 x4_1).f4.f2).length c132_6)).setCell ⟨gb133, 7, none⟩ (.int .i64 ((rd_T36 l0 x4_1).f4.f3))).setCell ⟨gb133, 8, none⟩ (.int .u64 ((rd_T36 l0 x4_1).f4.f4))).setCell ⟨gb133, 9, none⟩ (.int .i64 ((rd_T36 l0 x4_1).f4.f5))).setCell ⟨gb133, 10, none⟩ (.slice A132_10 ((rd_T36 l0 x4_1).f5).length c132_10)) = w17 at n0_ n1_ ⊢
                        have BK133 := n0_
                        have HB := n1_
                        clear n0_ n1_
                        have n0_ := Aside0.mk (blk_drew BK133.out)
                        have n1_ := Aside0.mk (below_drew1 HB.out)
                        clear BK133
                        clear HB
                        have BK133 := n0_
                        have HB := n1_
                        clear n0_ n1_
                        refine start_ (n := 18) (S := fun w' => w'.cell? ⟨gb133, 0, none⟩ = some (.int .i64 ((rd_T36 l0 x4_1).f0)) ∧ w'.cell? ⟨gb133, 1, none⟩ = some (.int .i64 ((rd_T36 l0 x4_1).f1)) ∧ w'.cell? ⟨gb133, 2, none⟩ = some (.int .i64 ((rd_T36 l0 x4_1).f2)) ∧ w'.cell? ⟨gb133, 3, none⟩ = some (.int .i64 ((rd_T36 l0 x4_1).f3)) ∧ w'.cell? ⟨gb133, 4, none⟩ = some (.int .i64 ((rd_T36 l0 x4_1).f4.f0)) ∧ w'.cell? ⟨gb133, 5, none⟩ = some (.slice A132_5 ((rd_T36 l0 x4_1).f4.f1).length c132_5) ∧ w'.cell? ⟨gb133, 6, none⟩ = some (.slice A132_6 ((rd_T36 l0 x4_1).f4.f2).length c132_6) ∧ w'.cell? ⟨gb133, 7, none⟩ = some (.int .i64 ((rd_T36 l0 x4_1).f4.f3)) ∧ w'.cell? ⟨gb133, 8, none⟩ = some (.int .u64 ((rd_T36 l0 x4_1).f4.f4)) ∧ w'.cell? ⟨gb133, 9, none⟩ = some (.int .i64 ((rd_T36 l0 x4_1).f4.f5)) ∧ w'.cell? ⟨gb133, 10, none⟩ = some (.slice A132_10 ((rd_T36 l0 x4_1).f5).length c132_10)) (ds := []) #[false, false, false, false, false, false, false, false, false, false, false, false, false, false, false, false, false, false] (by kernel_rfl) rfl rfl ⟨(blk_cell BK133.out 0).trans rfl, (blk_cell BK133.out 1).trans rfl, (blk_cell BK133.out 2).trans rfl, (blk_cell BK133.out 3).trans rfl, (blk_cell BK133.out 4).trans rfl, (blk_cell BK133.out 5).trans rfl, (blk_cell BK133.out 6).trans rfl, (blk_cell BK133.out 7).trans rfl, (blk_cell BK133.out 8).trans rfl, (blk_cell BK133.out 9).trans rfl, (blk_cell BK133.out 10).trans rfl⟩ (fun hHeld => ?_); refine with_tabW strataref17_Print.tab6 strataref17_Print.bits6 (fun HT_ HW_ => ?_)
                        generalize w17.drew = w18 at BK133 HB hHeld ⊢
                        refine pure_ (i := 0) (N := some 17) (v := ?_) (a' := ?_) #[true, false, false, false, false, false, false, false, false, false, false, false, false, false, false, false, false, false] rfl rfl (any_of HT_.out (by kernel_rfl)) (fun _ _ _ h => h) (Or.inl ⟨by rfl, ?_⟩) ?_ ?_
                        rotate_left
                        · intro w'
                          go_simp
                          with_reducible rfl
                        rotate_left
                        · simp only [Act.put, List.setIfInBounds_toArray, List.set_cons_zero, List.set_cons_succ, i64_w, i32_w]
                          rfl
                        refine pure_ (i := 1) (N := some 18) (v := ?_) (a' := ?_) #[true, true, false, false, false, false, false, false, false, false, false, false, false, false, false, false, false, false] rfl rfl (any_of HT_.out (by kernel_rfl)) (fun _ _ _ h => h) (Or.inl ⟨by rfl, ?_⟩) ?_ ?_
                        rotate_left
                        · intro w'
                          go_simp
                          with_reducible rfl
                        rotate_left
                        · simp only [Act.put, List.setIfInBounds_toArray, List.set_cons_zero, List.set_cons_succ, i64_w, i32_w]
                          rfl
                        refine pure_ (i := 6) (N := some 23) (v := ?_) (a' := ?_) #[true, true, false, false, false, false, true, false, false, false, false, false, false, false, false, false, false, false] rfl rfl (any_of HT_.out (by kernel_rfl)) (fun _ _ _ h => h) (Or.inl ⟨by rfl, ?_⟩) ?_ ?_
                        rotate_left
                        · intro w'
                          go_simp
                          with_reducible rfl
                        rotate_left
                        · simp only [Act.put, List.setIfInBounds_toArray, List.set_cons_zero, List.set_cons_succ, i64_w, i32_w]
                          rfl
                        refine pure_ (i := 8) (N := some 25) (v := ?_) (a' := ?_) #[true, true, false, false, false, false, true, false, true, false, false, false, false, false, false, false, false, false] rfl rfl (any_of HT_.out (by kernel_rfl)) (fun _ _ _ h => h) (Or.inl ⟨by rfl, ?_⟩) ?_ ?_
                        rotate_left
                        · intro w'
                          go_simp
                          with_reducible rfl
                        rotate_left
                        · simp only [Act.put, List.setIfInBounds_toArray, List.set_cons_zero, List.set_cons_succ, i64_w, i32_w]
                          rfl
                        refine pure_ (i := 13) (N := some 30) (v := ?_) (a' := ?_) #[true, true, false, false, false, false, true, false, true, false, false, false, false, true, false, false, false, false] rfl rfl (any_of HT_.out (by kernel_rfl)) (fun _ _ _ h => h) (Or.inl ⟨by rfl, ?_⟩) ?_ ?_
                        rotate_left
                        · intro w'
                          go_simp
                          with_reducible rfl
                        rotate_left
                        · simp only [Act.put, List.setIfInBounds_toArray, List.set_cons_zero, List.set_cons_succ, i64_w, i32_w]
                          rfl
                        refine take_ (i := 2) (N := some 19) (v := ?_) (a' := ?_) #[true, true, true, false, false, false, true, false, true, false, false, false, false, true, false, false, false, false] rfl rfl (take_ofW HT_.out HW_.out (by kernel_rfl)) (fun _ _ _ h => h) (Or.inl ⟨by rfl, ?_⟩) hHeld ?_ ?_
                        rotate_left
                        · rintro w' ⟨s0, s1, s2, s3, s4, s5, s6, s7, s8, s9, s10⟩
                          go_simp
                          with_reducible rfl
                        rotate_left
                        · simp only [Act.put, List.setIfInBounds_toArray, List.set_cons_zero, List.set_cons_succ, i64_w, i32_w]
                          rfl
                        refine take_ (i := 7) (N := some 24) (v := ?_) (a' := ?_) #[true, true, true, false, false, false, true, true, true, false, false, false, false, true, false, false, false, false] rfl rfl (take_ofW HT_.out HW_.out (by kernel_rfl)) (fun _ _ _ h => h) (Or.inl ⟨by rfl, ?_⟩) hHeld ?_ ?_
                        rotate_left
                        · rintro w' ⟨s0, s1, s2, s3, s4, s5, s6, s7, s8, s9, s10⟩
                          go_simp
                          with_reducible rfl
                        rotate_left
                        · simp only [Act.put, List.setIfInBounds_toArray, List.set_cons_zero, List.set_cons_succ, i64_w, i32_w]
                          rfl
                        refine take_ (i := 9) (N := some 26) (v := ?_) (a' := ?_) #[true, true, true, false, false, false, true, true, true, true, false, false, false, true, false, false, false, false] rfl rfl (take_ofW HT_.out HW_.out (by kernel_rfl)) (fun _ _ _ h => h) (Or.inl ⟨by rfl, ?_⟩) hHeld ?_ ?_
                        rotate_left
                        · rintro w' ⟨s0, s1, s2, s3, s4, s5, s6, s7, s8, s9, s10⟩
                          go_simp
                          with_reducible rfl
                        rotate_left
                        · simp only [Act.put, List.setIfInBounds_toArray, List.set_cons_zero, List.set_cons_succ, i64_w, i32_w]
                          rfl
                        refine take_ (i := 14) (N := some 31) (v := ?_) (a' := ?_) #[true, true, true, false, false, false, true, true, true, true, false, false, false, true, true, false, false, false] rfl rfl (take_ofW HT_.out HW_.out (by kernel_rfl)) (fun _ _ _ h => h) (Or.inl ⟨by rfl, ?_⟩) hHeld ?_ ?_
                        rotate_left
                        · rintro w' ⟨s0, s1, s2, s3, s4, s5, s6, s7, s8, s9, s10⟩
                          go_simp
                          with_reducible rfl
                        rotate_left
                        · simp only [Act.put, List.setIfInBounds_toArray, List.set_cons_zero, List.set_cons_succ, i64_w, i32_w]
                          rfl
                        refine one_ (i := 3) (N := some 20) #[true, true, true, true, false, false, true, true, true, true, false, false, false, true, true, false, false, false] rfl rfl (one_of HT_.out (by kernel_rfl)) (by decide) (fun K hK => ?_)
                        refine goes_ Tryd.func28 (by kernel_rfl) rfl #[.int .i64 ((rd_T36 l0 x4_1).f0)] (by rfl) rfl rfl (by (try simp only [List.map_toArray, List.map_cons, List.map_nil]); first | done | rfl | (simp only [List.length_drop, List.length_take]; rfl)) ?_
                        with_reducible refine (strataref17_digits.calls k1 ((rd_T36 l0 x4_1).f0) t134 _ A4.out).mono ?_
                        rintro e w19 ⟨rfl, hb⟩
                        refine ⟨_, rfl, ?_⟩
                        have n0_ := Aside0.mk (blk_below (g := gb133) (o := .cells #[.int .i64 ((rd_T36 l0 x4_1).f0), .int .i64 ((rd_T36 l0 x4_1).f1), .int .i64 ((rd_T36 l0 x4_1).f2), .int .i64 ((rd_T36 l0 x4_1).f3), .int .i64 ((rd_T36 l0 x4_1).f4.f0), .slice A132_5 ((rd_T36 l0 x4_1).f4.f1).length c132_5, .slice A132_6 ((rd_T36 l0 x4_1).f4.f2).length c132_6, .int .i64 ((rd_T36 l0 x4_1).f4.f3), .int .u64 ((rd_T36 l0 x4_1).f4.f4), .int .i64 ((rd_T36 l0 x4_1).f4.f5), .slice A132_10 ((rd_T36 l0 x4_1).f5).length c132_10] 36 (0, 0)) (by (with_reducible repeat (first | refine blk_drewN ?_ _ | refine blk_drew ?_ | refine blk_alloc ?_ _)); exact BK133.out) hb)
                        have n1_ := Aside0.mk (below_step (by repeat (first | (with_reducible first | exact HB.out | apply below_alloc | apply pw_below_drewN | apply below_drew1 | refine below_set ?_ GE133.out) | exact HB.out)) hb)
                        clear BK133
                        clear HB
                        have BK133 := n0_
                        have HB := n1_
                        clear n0_ n1_
                        (try clear hb)
                        (try clear hb2)
                        (try clear hk)
                        (try clear hi)
                        refine hK.out _ _ ⟨(blk_cell BK133.out 0).trans rfl, (blk_cell BK133.out 1).trans rfl, (blk_cell BK133.out 2).trans rfl, (blk_cell BK133.out 3).trans rfl, (blk_cell BK133.out 4).trans rfl, (blk_cell BK133.out 5).trans rfl, (blk_cell BK133.out 6).trans rfl, (blk_cell BK133.out 7).trans rfl, (blk_cell BK133.out 8).trans rfl, (blk_cell BK133.out 9).trans rfl, (blk_cell BK133.out 10).trans rfl⟩ (fun hHeld => ?_)
                        clear hK K
                        refine norm_ (a' := ?_) ?_ ?_
                        rotate_left
                        · show Act.put _ (some 20) _ = _
                          simp only [Act.put, List.setIfInBounds_toArray, List.set_cons_zero, List.set_cons_succ, i64_w, i32_w]
                          rfl
                        refine pure_ (i := 4) (N := some 21) (v := ?_) (a' := ?_) #[true, true, true, true, true, false, true, true, true, true, false, false, false, true, true, false, false, false] rfl rfl (any_of HT_.out (by kernel_rfl)) (fun _ _ _ h => h) (Or.inl ⟨by rfl, ?_⟩) ?_ ?_
                        rotate_left
                        · intro w'
                          go_simp
                          with_reducible rfl
                        rotate_left
                        · simp only [Act.put, List.setIfInBounds_toArray, List.set_cons_zero, List.set_cons_succ, i64_w, i32_w]
                          rfl
                        refine pure_ (i := 5) (N := some 22) (v := ?_) (a' := ?_) #[true, true, true, true, true, true, true, true, true, true, false, false, false, true, true, false, false, false] rfl rfl (any_of HT_.out (by kernel_rfl)) (fun _ _ _ h => h) (Or.inl ⟨by rfl, ?_⟩) ?_ ?_
                        rotate_left
                        · intro w'
                          go_simp
                          with_reducible rfl
                        rotate_left
                        · simp only [Act.put, List.setIfInBounds_toArray, List.set_cons_zero, List.set_cons_succ, i64_w, i32_w]
                          rfl
                        refine one_ (i := 10) (N := some 27) #[true, true, true, true, true, true, true, true, true, true, true, false, false, true, true, false, false, false] rfl rfl (one_of HT_.out (by kernel_rfl)) (by decide) (fun K hK => ?_)
                        refine goes_ Tryd.func29 (by kernel_rfl) rfl #[.int .i64 ((rd_T36 l0 x4_1).f1), .int .i64 ((rd_T36 l0 x4_1).f2)] (by rfl) rfl rfl (by (try simp only [List.map_toArray, List.map_cons, List.map_nil]); first | done | rfl | (simp only [List.length_drop, List.length_take]; rfl)) ?_
                        with_reducible refine (strataref17_head.calls k1 ((rd_T36 l0 x4_1).f1) ((rd_T36 l0 x4_1).f2) t135 _ A7.out).mono ?_
                        rintro e w20 ⟨rfl, hb⟩
                        refine ⟨_, rfl, ?_⟩
                        have n0_ := Aside0.mk (blk_below (g := gb133) (o := .cells #[.int .i64 ((rd_T36 l0 x4_1).f0), .int .i64 ((rd_T36 l0 x4_1).f1), .int .i64 ((rd_T36 l0 x4_1).f2), .int .i64 ((rd_T36 l0 x4_1).f3), .int .i64 ((rd_T36 l0 x4_1).f4.f0), .slice A132_5 ((rd_T36 l0 x4_1).f4.f1).length c132_5, .slice A132_6 ((rd_T36 l0 x4_1).f4.f2).length c132_6, .int .i64 ((rd_T36 l0 x4_1).f4.f3), .int .u64 ((rd_T36 l0 x4_1).f4.f4), .int .i64 ((rd_T36 l0 x4_1).f4.f5), .slice A132_10 ((rd_T36 l0 x4_1).f5).length c132_10] 36 (0, 0)) (by (with_reducible repeat (first | refine blk_drewN ?_ _ | refine blk_drew ?_ | refine blk_alloc ?_ _)); exact BK133.out) hb)
                        have n1_ := Aside0.mk (below_step (by repeat (first | (with_reducible first | exact HB.out | apply below_alloc | apply pw_below_drewN | apply below_drew1 | refine below_set ?_ GE133.out) | exact HB.out)) hb)
                        clear BK133
                        clear HB
                        have BK133 := n0_
                        have HB := n1_
                        clear n0_ n1_
                        (try clear hb)
                        (try clear hb2)
                        (try clear hk)
                        (try clear hi)
                        refine hK.out _ _ ⟨(blk_cell BK133.out 0).trans rfl, (blk_cell BK133.out 1).trans rfl, (blk_cell BK133.out 2).trans rfl, (blk_cell BK133.out 3).trans rfl, (blk_cell BK133.out 4).trans rfl, (blk_cell BK133.out 5).trans rfl, (blk_cell BK133.out 6).trans rfl, (blk_cell BK133.out 7).trans rfl, (blk_cell BK133.out 8).trans rfl, (blk_cell BK133.out 9).trans rfl, (blk_cell BK133.out 10).trans rfl⟩ (fun hHeld => ?_)
                        clear hK K
                        refine norm_ (a' := ?_) ?_ ?_
                        rotate_left
                        · show Act.put _ (some 27) _ = _
                          simp only [Act.put, List.setIfInBounds_toArray, List.set_cons_zero, List.set_cons_succ, i64_w, i32_w]
                          rfl
                        refine pure_ (i := 11) (N := some 28) (v := ?_) (a' := ?_) #[true, true, true, true, true, true, true, true, true, true, true, true, false, true, true, false, false, false] rfl rfl (any_of HT_.out (by kernel_rfl)) (fun _ _ _ h => h) (Or.inl ⟨by rfl, ?_⟩) ?_ ?_
                        rotate_left
                        · intro w'
                          go_simp
                          with_reducible rfl
                        rotate_left
                        · simp only [Act.put, List.setIfInBounds_toArray, List.set_cons_zero, List.set_cons_succ, i64_w, i32_w]
                          rfl
                        refine pure_ (i := 12) (N := some 29) (v := ?_) (a' := ?_) #[true, true, true, true, true, true, true, true, true, true, true, true, true, true, true, false, false, false] rfl rfl (any_of HT_.out (by kernel_rfl)) (fun _ _ _ h => h) (Or.inl ⟨by rfl, ?_⟩) ?_ ?_
                        rotate_left
                        · intro w'
                          go_simp
                          with_reducible rfl
                        rotate_left
                        · simp only [Act.put, List.setIfInBounds_toArray, List.set_cons_zero, List.set_cons_succ, i64_w, i32_w]
                          rfl
                        refine one_ (i := 15) (N := some 32) #[true, true, true, true, true, true, true, true, true, true, true, true, true, true, true, true, false, false] rfl rfl (one_of HT_.out (by kernel_rfl)) (by decide) (fun K hK => ?_)
                        refine goes_ Tryd.func30 (by kernel_rfl) rfl #[.int .i64 ((rd_T36 l0 x4_1).f3)] (by rfl) rfl rfl (by (try simp only [List.map_toArray, List.map_cons, List.map_nil]); first | done | rfl | (simp only [List.length_drop, List.length_take]; rfl)) ?_
                        with_reducible refine (strataref17_code.calls k1 ((rd_T36 l0 x4_1).f3) t136 _ A10.out).mono ?_
                        rintro e w21 ⟨rfl, hb⟩
                        refine ⟨_, rfl, ?_⟩
                        have n0_ := Aside0.mk (blk_below (g := gb133) (o := .cells #[.int .i64 ((rd_T36 l0 x4_1).f0), .int .i64 ((rd_T36 l0 x4_1).f1), .int .i64 ((rd_T36 l0 x4_1).f2), .int .i64 ((rd_T36 l0 x4_1).f3), .int .i64 ((rd_T36 l0 x4_1).f4.f0), .slice A132_5 ((rd_T36 l0 x4_1).f4.f1).length c132_5, .slice A132_6 ((rd_T36 l0 x4_1).f4.f2).length c132_6, .int .i64 ((rd_T36 l0 x4_1).f4.f3), .int .u64 ((rd_T36 l0 x4_1).f4.f4), .int .i64 ((rd_T36 l0 x4_1).f4.f5), .slice A132_10 ((rd_T36 l0 x4_1).f5).length c132_10] 36 (0, 0)) (by (with_reducible repeat (first | refine blk_drewN ?_ _ | refine blk_drew ?_ | refine blk_alloc ?_ _)); exact BK133.out) hb)
                        have n1_ := Aside0.mk (below_step (by repeat (first | (with_reducible first | exact HB.out | apply below_alloc | apply pw_below_drewN | apply below_drew1 | refine below_set ?_ GE133.out) | exact HB.out)) hb)
                        clear BK133
                        clear HB
                        have BK133 := n0_
                        have HB := n1_
                        clear n0_ n1_
                        (try clear hb)
                        (try clear hb2)
                        (try clear hk)
                        (try clear hi)
                        refine hK.out _ _ ⟨(blk_cell BK133.out 0).trans rfl, (blk_cell BK133.out 1).trans rfl, (blk_cell BK133.out 2).trans rfl, (blk_cell BK133.out 3).trans rfl, (blk_cell BK133.out 4).trans rfl, (blk_cell BK133.out 5).trans rfl, (blk_cell BK133.out 6).trans rfl, (blk_cell BK133.out 7).trans rfl, (blk_cell BK133.out 8).trans rfl, (blk_cell BK133.out 9).trans rfl, (blk_cell BK133.out 10).trans rfl⟩ (fun hHeld => ?_)
                        clear hK K
                        refine norm_ (a' := ?_) ?_ ?_
                        rotate_left
                        · show Act.put _ (some 32) _ = _
                          simp only [Act.put, List.setIfInBounds_toArray, List.set_cons_zero, List.set_cons_succ, i64_w, i32_w]
                          rfl
                        refine pure_ (i := 16) (N := some 33) (v := ?_) (a' := ?_) #[true, true, true, true, true, true, true, true, true, true, true, true, true, true, true, true, true, false] rfl rfl (any_of HT_.out (by kernel_rfl)) (fun _ _ _ h => h) (Or.inl ⟨by rfl, ?_⟩) ?_ ?_
                        rotate_left
                        · intro w'
                          go_simp
                          with_reducible rfl
                        rotate_left
                        · simp only [Act.put, List.setIfInBounds_toArray, List.set_cons_zero, List.set_cons_succ, i64_w, i32_w]
                          rfl
                        refine pure_ (i := 17) (N := some 3) (v := ?_) (a' := ?_) #[true, true, true, true, true, true, true, true, true, true, true, true, true, true, true, true, true, true] rfl rfl (any_of HT_.out (by kernel_rfl)) (fun _ _ _ h => h) (Or.inl ⟨by rfl, ?_⟩) ?_ ?_
                        rotate_left
                        · intro w'
                          go_simp
                          with_reducible rfl
                        rotate_left
                        · simp only [Act.put, List.setIfInBounds_toArray, List.set_cons_zero, List.set_cons_succ, i64_w, i32_w]
                          rfl
                        refine done_ (done_of HT_.out (by kernel_rfl)) ?_
                        have hcz22_0 : w21.cell? ⟨gb133, 0, none⟩ = some (.int .i64 ((rd_T36 l0 x4_1).f0)) := (blk_cell BK133.out 0).trans rfl
                        have hcz22_1 : w21.cell? ⟨gb133, 1, none⟩ = some (.int .i64 ((rd_T36 l0 x4_1).f1)) := (blk_cell BK133.out 1).trans rfl
                        have hcz22_2 : w21.cell? ⟨gb133, 2, none⟩ = some (.int .i64 ((rd_T36 l0 x4_1).f2)) := (blk_cell BK133.out 2).trans rfl
                        have hcz22_3 : w21.cell? ⟨gb133, 3, none⟩ = some (.int .i64 ((rd_T36 l0 x4_1).f3)) := (blk_cell BK133.out 3).trans rfl
                        have hcz22_4 : w21.cell? ⟨gb133, 4, none⟩ = some (.int .i64 ((rd_T36 l0 x4_1).f4.f0)) := (blk_cell BK133.out 4).trans rfl
                        have hcz22_5 : w21.cell? ⟨gb133, 5, none⟩ = some (.slice A132_5 ((rd_T36 l0 x4_1).f4.f1).length c132_5) := (blk_cell BK133.out 5).trans rfl
                        have hcz22_6 : w21.cell? ⟨gb133, 6, none⟩ = some (.slice A132_6 ((rd_T36 l0 x4_1).f4.f2).length c132_6) := (blk_cell BK133.out 6).trans rfl
                        have hcz22_7 : w21.cell? ⟨gb133, 7, none⟩ = some (.int .i64 ((rd_T36 l0 x4_1).f4.f3)) := (blk_cell BK133.out 7).trans rfl
                        have hcz22_8 : w21.cell? ⟨gb133, 8, none⟩ = some (.int .u64 ((rd_T36 l0 x4_1).f4.f4)) := (blk_cell BK133.out 8).trans rfl
                        have hcz22_9 : w21.cell? ⟨gb133, 9, none⟩ = some (.int .i64 ((rd_T36 l0 x4_1).f4.f5)) := (blk_cell BK133.out 9).trans rfl
                        have hcz22_10 : w21.cell? ⟨gb133, 10, none⟩ = some (.slice A132_10 ((rd_T36 l0 x4_1).f5).length c132_10) := (blk_cell BK133.out 10).trans rfl
                        have hfz22_0 := blk_frozen BK133.out 0
                        have hfz22_1 := blk_frozen BK133.out 1
                        have hfz22_2 := blk_frozen BK133.out 2
                        have hfz22_3 := blk_frozen BK133.out 3
                        have hfz22_4 := blk_frozen BK133.out 4
                        have hfz22_5 := blk_frozen BK133.out 5
                        have hfz22_6 := blk_frozen BK133.out 6
                        have hfz22_7 := blk_frozen BK133.out 7
                        have hfz22_8 := blk_frozen BK133.out 8
                        have hfz22_9 := blk_frozen BK133.out 9
                        have hfz22_10 := blk_frozen BK133.out 10
                        try go_wp2_with (first | ((with_reducible refine gate_callee (f := 31) rfl ?_); refine goesL_ (some 57) rfl rfl Tryd.func31 (by kernel_rfl) rfl #[.agg #[.int .i64 ((rd_T36 l0 x4_1).f0), .int .i64 ((rd_T36 l0 x4_1).f1), .int .i64 ((rd_T36 l0 x4_1).f2), .int .i64 ((rd_T36 l0 x4_1).f3), .int .i64 ((rd_T36 l0 x4_1).f4.f0), .slice A132_5 ((rd_T36 l0 x4_1).f4.f1).length c132_5, .slice A132_6 ((rd_T36 l0 x4_1).f4.f2).length c132_6, .int .i64 ((rd_T36 l0 x4_1).f4.f3), .int .u64 ((rd_T36 l0 x4_1).f4.f4), .int .i64 ((rd_T36 l0 x4_1).f4.f5), .slice A132_10 ((rd_T36 l0 x4_1).f5).length c132_10]] rfl (by (try simp only [List.map_toArray, List.map_cons, List.map_nil]); first | done | rfl | (simp only [List.length_drop, List.length_take]; rfl)) ?_; (with_reducible refine (strataref17_result.calls k1 ((rd_T36 l0 x4_1).f0) ((rd_T36 l0 x4_1).f1) ((rd_T36 l0 x4_1).f2) ((rd_T36 l0 x4_1).f3) ((rd_T36 l0 x4_1).f4.f0) _ _ ((rd_T36 l0 x4_1).f4.f1) _ _ ((rd_T36 l0 x4_1).f4.f2) ((rd_T36 l0 x4_1).f4.f3) ((rd_T36 l0 x4_1).f4.f4) ((rd_T36 l0 x4_1).f4.f5) _ _ ((rd_T36 l0 x4_1).f5) t137 _ ?side1 ?side2 ?side3 ?side4 ?side5 ?side6 A13.out).mono ?_); (case side1 => repeat (first | exact (Kd.C_below HR132_5.out HB.out) | (with_reducible refine Kd.C_alloc ?_ _) | (with_reducible refine Kd.C_drewN ?_ _) | (with_reducible refine Kd.C_drew ?_))); (case side2 => exact HC132_5.out); (case side3 => repeat (first | exact (Kd.C_below HR132_6.out HB.out) | (with_reducible refine Kd.C_alloc ?_ _) | (with_reducible refine Kd.C_drewN ?_ _) | (with_reducible refine Kd.C_drew ?_))); (case side4 => exact HC132_6.out); (case side5 => repeat (first | exact (Kd.C_below HR132_10.out HB.out) | (with_reducible refine Kd.C_alloc ?_ _) | (with_reducible refine Kd.C_drewN ?_ _) | (with_reducible refine Kd.C_drew ?_))); (case side6 => exact HC132_10.out); rintro e w23 ⟨rfl, hb⟩; refine ⟨_, rfl, ?_⟩; have n0_ := Aside0.mk (blk_below (g := gb133) (o := .cells #[.int .i64 ((rd_T36 l0 x4_1).f0), .int .i64 ((rd_T36 l0 x4_1).f1), .int .i64 ((rd_T36 l0 x4_1).f2), .int .i64 ((rd_T36 l0 x4_1).f3), .int .i64 ((rd_T36 l0 x4_1).f4.f0), .slice A132_5 ((rd_T36 l0 x4_1).f4.f1).length c132_5, .slice A132_6 ((rd_T36 l0 x4_1).f4.f2).length c132_6, .int .i64 ((rd_T36 l0 x4_1).f4.f3), .int .u64 ((rd_T36 l0 x4_1).f4.f4), .int .i64 ((rd_T36 l0 x4_1).f4.f5), .slice A132_10 ((rd_T36 l0 x4_1).f5).length c132_10] 36 (0, 0)) (by (with_reducible repeat (first | refine blk_drewN ?_ _ | refine blk_drew ?_ | refine blk_alloc ?_ _)); exact BK133.out) hb); have n1_ := Aside0.mk (below_step (by repeat (first | (with_reducible first | exact HB.out | apply below_alloc | apply pw_below_drewN | apply below_drew1 | refine below_set ?_ GE133.out) | exact HB.out)) hb); clear BK133; clear HB; have BK133 := n0_; have HB := n1_; clear n0_ n1_; (try clear hb); (try clear hb2); (try clear hk); (try clear hi)))
                        go_roundg k1
                        case measure => have := HK1.out; omega
                        case rel => exact ⟨((((((x3_1 ++ t134) ++ (⟨#[32]⟩ : ByteArray)) ++ t135) ++ (⟨#[32]⟩ : ByteArray)) ++ t136) ++ t137), (wrap64 (x4_1 + 1)), (by first | rfl | (simp; done) | (simp [*]; done)), (by first | rfl | (simp; done) | (simp [*]; done)), H', ⟨by have := HK1.out; omega⟩, ⟨by repeat (first | (with_reducible first | exact HB.out | apply below_alloc | apply pw_below_drewN | apply below_drew1 | refine below_set ?_ GE133.out) | exact HB.out)⟩⟩
                      · rw [if_neg c14] at H
                        exact absurd H (by simp)
                    · rw [if_neg c12] at H
                      have c12b0 : (((rd_T36 l0 x4_1).f1) == 1) = false := beq_eq_false_iff_ne.mpr c12
                      have c12b1 : (((rd_T36 l0 x4_1).f1) != 1) = true := bne_iff_ne.mpr c12
                      have H' := Aside0.mk H
                      clear H
                      have p132 : 0 ≤ (x4_1 : Int) := of_decide_eq_true (by first | (with_reducible assumption) | assumption)
                      have q132 : x4_1 < (l0.length : Int) := of_decide_eq_true (by first | (with_reducible assumption) | assumption)
                      obtain ⟨ad132, A132_5, c132_5, A132_6, c132_6, A132_10, c132_10, e132, hx132_0, hx132_1, hx132_2, hx132_3, hx132_4, hx132_5, hx132_6, hx132_7, hx132_8, hx132_9, hx132_10, hl132_5, hi132_5, hl132_6, hi132_6, hl132_10, hi132_10⟩ := at_T36 HR0.out x4_1 p132 q132
                      cases e132
                      replace hx132_0 := (HB.out.cell (World.block_lt_of_cell? w _ hx132_0)).trans hx132_0
                      replace hx132_1 := (HB.out.cell (World.block_lt_of_cell? w _ hx132_1)).trans hx132_1
                      replace hx132_2 := (HB.out.cell (World.block_lt_of_cell? w _ hx132_2)).trans hx132_2
                      replace hx132_3 := (HB.out.cell (World.block_lt_of_cell? w _ hx132_3)).trans hx132_3
                      replace hx132_4 := (HB.out.cell (World.block_lt_of_cell? w _ hx132_4)).trans hx132_4
                      replace hx132_5 := (HB.out.cell (World.block_lt_of_cell? w _ hx132_5)).trans hx132_5
                      replace hx132_6 := (HB.out.cell (World.block_lt_of_cell? w _ hx132_6)).trans hx132_6
                      replace hx132_7 := (HB.out.cell (World.block_lt_of_cell? w _ hx132_7)).trans hx132_7
                      replace hx132_8 := (HB.out.cell (World.block_lt_of_cell? w _ hx132_8)).trans hx132_8
                      replace hx132_9 := (HB.out.cell (World.block_lt_of_cell? w _ hx132_9)).trans hx132_9
                      replace hx132_10 := (HB.out.cell (World.block_lt_of_cell? w _ hx132_10)).trans hx132_10
                      have HR132_5 := Aside0.mk hi132_5
                      have HC132_5 := Aside0.mk hl132_5
                      clear hi132_5 hl132_5
                      have HR132_6 := Aside0.mk hi132_6
                      have HC132_6 := Aside0.mk hl132_6
                      clear hi132_6 hl132_6
                      have HR132_10 := Aside0.mk hi132_10
                      have HC132_10 := Aside0.mk hl132_10
                      clear hi132_10 hl132_10
                      replace p132 := eq_true p132
                      replace q132 := eq_true q132
                      try go_wp2_with (first | ((with_reducible refine gate_dst (N := 5) rfl ?_); refine box_event ?hg (N := 5) ?hd (cs := #[.int .i64 0, .int .i64 0, .int .i64 0, .int .i64 0, .int .i64 0, .slice none 0 0, .slice none 0 0, .int .i64 0, .int .u64 0, .int .i64 0, .slice none 0 0]) (t := 36) ?hr ?_; (case hd => rfl); (case hg => rfl); (case hr => first | (go_simp; done) | (go_simp; rfl)); intro gb133 hg w24 hbox hb; have n0_ := Aside0.mk (below_step (by repeat (first | (with_reducible first | exact HB.out | apply below_alloc | apply pw_below_drewN | apply below_drew1) | exact HB.out)) hb); have n1_ := Aside0.mk (hbox); have n2_ := Aside0.mk ((by rw [hg]; exact (below_size (by repeat (first | (with_reducible first | exact HB.out | apply below_alloc | apply pw_below_drewN | apply below_drew1) | exact HB.out))) : w.heap.size ≤ gb133)); have n3_ := Aside0.mk ((by rw [hg]; exact (below_size (by repeat (first | (with_reducible first | exact HB.out | apply below_alloc | apply pw_below_drewN | apply below_drew1) | exact HB.out))) : w.heap.size ≤ gb133)); clear HB; have HB := n0_; have BK133 := n1_; have GW133 := n2_; have GE133 := n3_; clear n0_ n1_ n2_ n3_; clear hb hbox hg; have hcz25_0 : w24.cell? ⟨gb133, 0, none⟩ = some (.int .i64 0) := (blk_cell BK133.out 0).trans rfl; have hcz25_1 : w24.cell? ⟨gb133, 1, none⟩ = some (.int .i64 0) := (blk_cell BK133.out 1).trans rfl; have hcz25_2 : w24.cell? ⟨gb133, 2, none⟩ = some (.int .i64 0) := (blk_cell BK133.out 2).trans rfl; have hcz25_3 : w24.cell? ⟨gb133, 3, none⟩ = some (.int .i64 0) := (blk_cell BK133.out 3).trans rfl; have hcz25_4 : w24.cell? ⟨gb133, 4, none⟩ = some (.int .i64 0) := (blk_cell BK133.out 4).trans rfl; have hcz25_5 : w24.cell? ⟨gb133, 5, none⟩ = some (.slice none 0 0) := (blk_cell BK133.out 5).trans rfl; have hcz25_6 : w24.cell? ⟨gb133, 6, none⟩ = some (.slice none 0 0) := (blk_cell BK133.out 6).trans rfl; have hcz25_7 : w24.cell? ⟨gb133, 7, none⟩ = some (.int .i64 0) := (blk_cell BK133.out 7).trans rfl; have hcz25_8 : w24.cell? ⟨gb133, 8, none⟩ = some (.int .u64 0) := (blk_cell BK133.out 8).trans rfl; have hcz25_9 : w24.cell? ⟨gb133, 9, none⟩ = some (.int .i64 0) := (blk_cell BK133.out 9).trans rfl; have hcz25_10 : w24.cell? ⟨gb133, 10, none⟩ = some (.slice none 0 0) := (blk_cell BK133.out 10).trans rfl; have hfz25_0 := blk_frozen BK133.out 0; have hfz25_1 := blk_frozen BK133.out 1; have hfz25_2 := blk_frozen BK133.out 2; have hfz25_3 := blk_frozen BK133.out 3; have hfz25_4 := blk_frozen BK133.out 4; have hfz25_5 := blk_frozen BK133.out 5; have hfz25_6 := blk_frozen BK133.out 6; have hfz25_7 := blk_frozen BK133.out 7; have hfz25_8 := blk_frozen BK133.out 8; have hfz25_9 := blk_frozen BK133.out 9; have hfz25_10 := blk_frozen BK133.out 10))
                      have n0_ : Aside0 ((((((((((((w24.setCell ⟨gb133, 0, none⟩ (.int .i64 ((rd_T36 l0 x4_1).f0))).setCell ⟨gb133, 1, none⟩ (.int .i64 ((rd_T36 l0 x4_1).f1))).setCell ⟨gb133, 2, none⟩ (.int .i64 ((rd_T36 l0 x4_1).f2))).setCell ⟨gb133, 3, none⟩ (.int .i64 ((rd_T36 l0 x4_1).f3))).setCell ⟨gb133, 4, none⟩ (.int .i64 ((rd_T36 l0 x4_1).f4.f0))).setCell ⟨gb133, 5, none⟩ (.slice A132_5 ((rd_T36 l0 x4_1).f4.f1).length c132_5)).setCell ⟨gb133, 6, none⟩ (.slice A132_6 ((rd_T36 l0 x4_1).f4.f2).length c132_6)).setCell ⟨gb133, 7, none⟩ (.int .i64 ((rd_T36 l0 x4_1).f4.f3))).setCell ⟨gb133, 8, none⟩ (.int .u64 ((rd_T36 l0 x4_1).f4.f4))).setCell ⟨gb133, 9, none⟩ (.int .i64 ((rd_T36 l0 x4_1).f4.f5))).setCell ⟨gb133, 10, none⟩ (.slice A132_10 ((rd_T36 l0 x4_1).f5).length c132_10)).heap[gb133]? = some (.cells #[.int .i64 ((rd_T36 l0 x4_1).f0), .int .i64 ((rd_T36 l0 x4_1).f1), .int .i64 ((rd_T36 l0 x4_1).f2), .int .i64 ((rd_T36 l0 x4_1).f3), .int .i64 ((rd_T36 l0 x4_1).f4.f0), .slice A132_5 ((rd_T36 l0 x4_1).f4.f1).length c132_5, .slice A132_6 ((rd_T36 l0 x4_1).f4.f2).length c132_6, .int .i64 ((rd_T36 l0 x4_1).f4.f3), .int .u64 ((rd_T36 l0 x4_1).f4.f4), .int .i64 ((rd_T36 l0 x4_1).f4.f5), .slice A132_10 ((rd_T36 l0 x4_1).f5).length c132_10] 36 (0, 0))) := ⟨by (with_reducible repeat (first | refine blk_drewN ?_ _ | refine blk_drew ?_ | refine blk_alloc ?_ _)); refine blk_put (cs := #[.int .i64 ((rd_T36 l0 x4_1).f0), .int .i64 ((rd_T36 l0 x4_1).f1), .int .i64 ((rd_T36 l0 x4_1).f2), .int .i64 ((rd_T36 l0 x4_1).f3), .int .i64 ((rd_T36 l0 x4_1).f4.f0), .slice A132_5 ((rd_T36 l0 x4_1).f4.f1).length c132_5, .slice A132_6 ((rd_T36 l0 x4_1).f4.f2).length c132_6, .int .i64 ((rd_T36 l0 x4_1).f4.f3), .int .u64 ((rd_T36 l0 x4_1).f4.f4), .int .i64 ((rd_T36 l0 x4_1).f4.f5), .slice none 0 0]) ?_ 10 _ rfl; (with_reducible repeat (first | refine blk_drewN ?_ _ | refine blk_drew ?_ | refine blk_alloc ?_ _)); refine blk_put (cs := #[.int .i64 ((rd_T36 l0 x4_1).f0), .int .i64 ((rd_T36 l0 x4_1).f1), .int .i64 ((rd_T36 l0 x4_1).f2), .int .i64 ((rd_T36 l0 x4_1).f3), .int .i64 ((rd_T36 l0 x4_1).f4.f0), .slice A132_5 ((rd_T36 l0 x4_1).f4.f1).length c132_5, .slice A132_6 ((rd_T36 l0 x4_1).f4.f2).length c132_6, .int .i64 ((rd_T36 l0 x4_1).f4.f3), .int .u64 ((rd_T36 l0 x4_1).f4.f4), .int .i64 0, .slice none 0 0]) ?_ 9 _ rfl; (with_reducible repeat (first | refine blk_drewN ?_ _ | refine blk_drew ?_ | refine blk_alloc ?_ _)); refine blk_put (cs := #[.int .i64 ((rd_T36 l0 x4_1).f0), .int .i64 ((rd_T36 l0 x4_1).f1), .int .i64 ((rd_T36 l0 x4_1).f2), .int .i64 ((rd_T36 l0 x4_1).f3), .int .i64 ((rd_T36 l0 x4_1).f4.f0), .slice A132_5 ((rd_T36 l0 x4_1).f4.f1).length c132_5, .slice A132_6 ((rd_T36 l0 x4_1).f4.f2).length c132_6, .int .i64 ((rd_T36 l0 x4_1).f4.f3), .int .u64 0, .int .i64 0, .slice none 0 0]) ?_ 8 _ rfl; (with_reducible repeat (first | refine blk_drewN ?_ _ | refine blk_drew ?_ | refine blk_alloc ?_ _)); refine blk_put (cs := #[.int .i64 ((rd_T36 l0 x4_1).f0), .int .i64 ((rd_T36 l0 x4_1).f1), .int .i64 ((rd_T36 l0 x4_1).f2), .int .i64 ((rd_T36 l0 x4_1).f3), .int .i64 ((rd_T36 l0 x4_1).f4.f0), .slice A132_5 ((rd_T36 l0 x4_1).f4.f1).length c132_5, .slice A132_6 ((rd_T36 l0 x4_1).f4.f2).length c132_6, .int .i64 0, .int .u64 0, .int .i64 0, .slice none 0 0]) ?_ 7 _ rfl; (with_reducible repeat (first | refine blk_drewN ?_ _ | refine blk_drew ?_ | refine blk_alloc ?_ _)); refine blk_put (cs := #[.int .i64 ((rd_T36 l0 x4_1).f0), .int .i64 ((rd_T36 l0 x4_1).f1), .int .i64 ((rd_T36 l0 x4_1).f2), .int .i64 ((rd_T36 l0 x4_1).f3), .int .i64 ((rd_T36 l0 x4_1).f4.f0), .slice A132_5 ((rd_T36 l0 x4_1).f4.f1).length c132_5, .slice none 0 0, .int .i64 0, .int .u64 0, .int .i64 0, .slice none 0 0]) ?_ 6 _ rfl; (with_reducible repeat (first | refine blk_drewN ?_ _ | refine blk_drew ?_ | refine blk_alloc ?_ _)); refine blk_put (cs := #[.int .i64 ((rd_T36 l0 x4_1).f0), .int .i64 ((rd_T36 l0 x4_1).f1), .int .i64 ((rd_T36 l0 x4_1).f2), .int .i64 ((rd_T36 l0 x4_1).f3), .int .i64 ((rd_T36 l0 x4_1).f4.f0), .slice none 0 0, .slice none 0 0, .int .i64 0, .int .u64 0, .int .i64 0, .slice none 0 0]) ?_ 5 _ rfl; (with_reducible repeat (first | refine blk_drewN ?_ _ | refine blk_drew ?_ | refine blk_alloc ?_ _)); refine blk_put (cs := #[.int .i64 ((rd_T36 l0 x4_1).f0), .int .i64 ((rd_T36 l0 x4_1).f1), .int .i64 ((rd_T36 l0 x4_1).f2), .int .i64 ((rd_T36 l0 x4_1).f3), .int .i64 0, .slice none 0 0, .slice none 0 0, .int .i64 0, .int .u64 0, .int .i64 0, .slice none 0 0]) ?_ 4 _ rfl; (with_reducible repeat (first | refine blk_drewN ?_ _ | refine blk_drew ?_ | refine blk_alloc ?_ _)); refine blk_put (cs := #[.int .i64 ((rd_T36 l0 x4_1).f0), .int .i64 ((rd_T36 l0 x4_1).f1), .int .i64 ((rd_T36 l0 x4_1).f2), .int .i64 0, .int .i64 0, .slice none 0 0, .slice none 0 0, .int .i64 0, .int .u64 0, .int .i64 0, .slice none 0 0]) ?_ 3 _ rfl; (with_reducible repeat (first | refine blk_drewN ?_ _ | refine blk_drew ?_ | refine blk_alloc ?_ _)); refine blk_put (cs := #[.int .i64 ((rd_T36 l0 x4_1).f0), .int .i64 ((rd_T36 l0 x4_1).f1), .int .i64 0, .int .i64 0, .int .i64 0, .slice none 0 0, .slice none 0 0, .int .i64 0, .int .u64 0, .int .i64 0, .slice none 0 0]) ?_ 2 _ rfl; (with_reducible repeat (first | refine blk_drewN ?_ _ | refine blk_drew ?_ | refine blk_alloc ?_ _)); refine blk_put (cs := #[.int .i64 ((rd_T36 l0 x4_1).f0), .int .i64 0, .int .i64 0, .int .i64 0, .int .i64 0, .slice none 0 0, .slice none 0 0, .int .i64 0, .int .u64 0, .int .i64 0, .slice none 0 0]) ?_ 1 _ rfl; (with_reducible repeat (first | refine blk_drewN ?_ _ | refine blk_drew ?_ | refine blk_alloc ?_ _)); refine blk_put (cs := #[.int .i64 0, .int .i64 0, .int .i64 0, .int .i64 0, .int .i64 0, .slice none 0 0, .slice none 0 0, .int .i64 0, .int .u64 0, .int .i64 0, .slice none 0 0]) ?_ 0 _ rfl; (with_reducible repeat (first | refine blk_drewN ?_ _ | refine blk_drew ?_ | refine blk_alloc ?_ _)); exact BK133.out⟩
                      have n1_ : Aside0 (Below w.heap.size w (((((((((((w24.setCell ⟨gb133, 0, none⟩ (.int .i64 ((rd_T36 l0 x4_1).f0))).setCell ⟨gb133, 1, none⟩ (.int .i64 ((rd_T36 l0 x4_1).f1))).setCell ⟨gb133, 2, none⟩ (.int .i64 ((rd_T36 l0 x4_1).f2))).setCell ⟨gb133, 3, none⟩ (.int .i64 ((rd_T36 l0 x4_1).f3))).setCell ⟨gb133, 4, none⟩ (.int .i64 ((rd_T36 l0 x4_1).f4.f0))).setCell ⟨gb133, 5, none⟩ (.slice A132_5 ((rd_T36 l0 x4_1).f4.f1).length c132_5)).setCell ⟨gb133, 6, none⟩ (.slice A132_6 ((rd_T36 l0 x4_1).f4.f2).length c132_6)).setCell ⟨gb133, 7, none⟩ (.int .i64 ((rd_T36 l0 x4_1).f4.f3))).setCell ⟨gb133, 8, none⟩ (.int .u64 ((rd_T36 l0 x4_1).f4.f4))).setCell ⟨gb133, 9, none⟩ (.int .i64 ((rd_T36 l0 x4_1).f4.f5))).setCell ⟨gb133, 10, none⟩ (.slice A132_10 ((rd_T36 l0 x4_1).f5).length c132_10))) := ⟨by repeat (first | (with_reducible first | exact HB.out | apply below_alloc | apply pw_below_drewN | apply below_drew1 | refine below_set ?_ GE133.out) | exact HB.out)⟩
                      (try clear BK133)
                      (try clear HB)
                      generalize (((((((((((w24.setCell ⟨gb133, 0, none⟩ (.int .i64 ((rd_T36 l0 x4_1).f0))).setCell ⟨gb133, 1, none⟩ (.int .i64 ((rd_T36 l0 x4_1).f1))).setCell ⟨gb133, 2, none⟩ (.int .i64 ((rd_T36 l0 x4_1).f2))).setCell ⟨gb133, 3, none⟩ (.int .i64 ((rd_T36 l0 x4_1).f3))).setCell ⟨gb133, 4, none⟩ (.int .i64 ((rd_T36 l0 x4_1).f4.f0))).setCell ⟨gb133, 5, none⟩ (.slice A132_5 ((rd_T36 l0 x4_1).f4.f1).length c132_5)).setCell ⟨gb133, 6, none⟩ (.slice A132_6 ((rd_T36 l0 x4_1).f4.f2).length c132_6)).setCell ⟨gb133, 7, none⟩ (.int .i64 ((rd_T36 l0 x4_1).f4.f3))).setCell ⟨gb133, 8, none⟩ (.int .u64 ((rd_T36 l0 x4_1).f4.f4))).setCell ⟨gb133, 9, none⟩ (.int .i64 ((rd_T36 l0 x4_1).f4.f5))).setCell ⟨gb133, 10, none⟩ (.slice A132_10 ((rd_T36 l0 x4_1).f5).length c132_10)) = w26 at n0_ n1_ ⊢
                      have BK133 := n0_
                      have HB := n1_
                      clear n0_ n1_
                      have n0_ := Aside0.mk (blk_drew BK133.out)
                      have n1_ := Aside0.mk (below_drew1 HB.out)
                      clear BK133
                      clear HB
                      have BK133 := n0_
                      have HB := n1_
                      clear n0_ n1_
                      refine start_ (n := 18) (S := fun w' => w'.cell? ⟨gb133, 0, none⟩ = some (.int .i64 ((rd_T36 l0 x4_1).f0)) ∧ w'.cell? ⟨gb133, 1, none⟩ = some (.int .i64 ((rd_T36 l0 x4_1).f1)) ∧ w'.cell? ⟨gb133, 2, none⟩ = some (.int .i64 ((rd_T36 l0 x4_1).f2)) ∧ w'.cell? ⟨gb133, 3, none⟩ = some (.int .i64 ((rd_T36 l0 x4_1).f3)) ∧ w'.cell? ⟨gb133, 4, none⟩ = some (.int .i64 ((rd_T36 l0 x4_1).f4.f0)) ∧ w'.cell? ⟨gb133, 5, none⟩ = some (.slice A132_5 ((rd_T36 l0 x4_1).f4.f1).length c132_5) ∧ w'.cell? ⟨gb133, 6, none⟩ = some (.slice A132_6 ((rd_T36 l0 x4_1).f4.f2).length c132_6) ∧ w'.cell? ⟨gb133, 7, none⟩ = some (.int .i64 ((rd_T36 l0 x4_1).f4.f3)) ∧ w'.cell? ⟨gb133, 8, none⟩ = some (.int .u64 ((rd_T36 l0 x4_1).f4.f4)) ∧ w'.cell? ⟨gb133, 9, none⟩ = some (.int .i64 ((rd_T36 l0 x4_1).f4.f5)) ∧ w'.cell? ⟨gb133, 10, none⟩ = some (.slice A132_10 ((rd_T36 l0 x4_1).f5).length c132_10)) (ds := []) #[false, false, false, false, false, false, false, false, false, false, false, false, false, false, false, false, false, false] (by kernel_rfl) rfl rfl ⟨(blk_cell BK133.out 0).trans rfl, (blk_cell BK133.out 1).trans rfl, (blk_cell BK133.out 2).trans rfl, (blk_cell BK133.out 3).trans rfl, (blk_cell BK133.out 4).trans rfl, (blk_cell BK133.out 5).trans rfl, (blk_cell BK133.out 6).trans rfl, (blk_cell BK133.out 7).trans rfl, (blk_cell BK133.out 8).trans rfl, (blk_cell BK133.out 9).trans rfl, (blk_cell BK133.out 10).trans rfl⟩ (fun hHeld => ?_); refine with_tabW strataref17_Print.tab6 strataref17_Print.bits6 (fun HT_ HW_ => ?_)
                      generalize w26.drew = w27 at BK133 HB hHeld ⊢
                      refine pure_ (i := 0) (N := some 17) (v := ?_) (a' := ?_) #[true, false, false, false, false, false, false, false, false, false, false, false, false, false, false, false, false, false] rfl rfl (any_of HT_.out (by kernel_rfl)) (fun _ _ _ h => h) (Or.inl ⟨by rfl, ?_⟩) ?_ ?_
                      rotate_left
                      · intro w'
                        go_simp
                        with_reducible rfl
                      rotate_left
                      · simp only [Act.put, List.setIfInBounds_toArray, List.set_cons_zero, List.set_cons_succ, i64_w, i32_w]
                        rfl
                      refine pure_ (i := 1) (N := some 18) (v := ?_) (a' := ?_) #[true, true, false, false, false, false, false, false, false, false, false, false, false, false, false, false, false, false] rfl rfl (any_of HT_.out (by kernel_rfl)) (fun _ _ _ h => h) (Or.inl ⟨by rfl, ?_⟩) ?_ ?_
                      rotate_left
                      · intro w'
                        go_simp
                        with_reducible rfl
                      rotate_left
                      · simp only [Act.put, List.setIfInBounds_toArray, List.set_cons_zero, List.set_cons_succ, i64_w, i32_w]
                        rfl
                      refine pure_ (i := 6) (N := some 23) (v := ?_) (a' := ?_) #[true, true, false, false, false, false, true, false, false, false, false, false, false, false, false, false, false, false] rfl rfl (any_of HT_.out (by kernel_rfl)) (fun _ _ _ h => h) (Or.inl ⟨by rfl, ?_⟩) ?_ ?_
                      rotate_left
                      · intro w'
                        go_simp
                        with_reducible rfl
                      rotate_left
                      · simp only [Act.put, List.setIfInBounds_toArray, List.set_cons_zero, List.set_cons_succ, i64_w, i32_w]
                        rfl
                      refine pure_ (i := 8) (N := some 25) (v := ?_) (a' := ?_) #[true, true, false, false, false, false, true, false, true, false, false, false, false, false, false, false, false, false] rfl rfl (any_of HT_.out (by kernel_rfl)) (fun _ _ _ h => h) (Or.inl ⟨by rfl, ?_⟩) ?_ ?_
                      rotate_left
                      · intro w'
                        go_simp
                        with_reducible rfl
                      rotate_left
                      · simp only [Act.put, List.setIfInBounds_toArray, List.set_cons_zero, List.set_cons_succ, i64_w, i32_w]
                        rfl
                      refine pure_ (i := 13) (N := some 30) (v := ?_) (a' := ?_) #[true, true, false, false, false, false, true, false, true, false, false, false, false, true, false, false, false, false] rfl rfl (any_of HT_.out (by kernel_rfl)) (fun _ _ _ h => h) (Or.inl ⟨by rfl, ?_⟩) ?_ ?_
                      rotate_left
                      · intro w'
                        go_simp
                        with_reducible rfl
                      rotate_left
                      · simp only [Act.put, List.setIfInBounds_toArray, List.set_cons_zero, List.set_cons_succ, i64_w, i32_w]
                        rfl
                      refine take_ (i := 2) (N := some 19) (v := ?_) (a' := ?_) #[true, true, true, false, false, false, true, false, true, false, false, false, false, true, false, false, false, false] rfl rfl (take_ofW HT_.out HW_.out (by kernel_rfl)) (fun _ _ _ h => h) (Or.inl ⟨by rfl, ?_⟩) hHeld ?_ ?_
                      rotate_left
                      · rintro w' ⟨s0, s1, s2, s3, s4, s5, s6, s7, s8, s9, s10⟩
                        go_simp
                        with_reducible rfl
                      rotate_left
                      · simp only [Act.put, List.setIfInBounds_toArray, List.set_cons_zero, List.set_cons_succ, i64_w, i32_w]
                        rfl
                      refine take_ (i := 7) (N := some 24) (v := ?_) (a' := ?_) #[true, true, true, false, false, false, true, true, true, false, false, false, false, true, false, false, false, false] rfl rfl (take_ofW HT_.out HW_.out (by kernel_rfl)) (fun _ _ _ h => h) (Or.inl ⟨by rfl, ?_⟩) hHeld ?_ ?_
                      rotate_left
                      · rintro w' ⟨s0, s1, s2, s3, s4, s5, s6, s7, s8, s9, s10⟩
                        go_simp
                        with_reducible rfl
                      rotate_left
                      · simp only [Act.put, List.setIfInBounds_toArray, List.set_cons_zero, List.set_cons_succ, i64_w, i32_w]
                        rfl
                      refine take_ (i := 9) (N := some 26) (v := ?_) (a' := ?_) #[true, true, true, false, false, false, true, true, true, true, false, false, false, true, false, false, false, false] rfl rfl (take_ofW HT_.out HW_.out (by kernel_rfl)) (fun _ _ _ h => h) (Or.inl ⟨by rfl, ?_⟩) hHeld ?_ ?_
                      rotate_left
                      · rintro w' ⟨s0, s1, s2, s3, s4, s5, s6, s7, s8, s9, s10⟩
                        go_simp
                        with_reducible rfl
                      rotate_left
                      · simp only [Act.put, List.setIfInBounds_toArray, List.set_cons_zero, List.set_cons_succ, i64_w, i32_w]
                        rfl
                      refine take_ (i := 14) (N := some 31) (v := ?_) (a' := ?_) #[true, true, true, false, false, false, true, true, true, true, false, false, false, true, true, false, false, false] rfl rfl (take_ofW HT_.out HW_.out (by kernel_rfl)) (fun _ _ _ h => h) (Or.inl ⟨by rfl, ?_⟩) hHeld ?_ ?_
                      rotate_left
                      · rintro w' ⟨s0, s1, s2, s3, s4, s5, s6, s7, s8, s9, s10⟩
                        go_simp
                        with_reducible rfl
                      rotate_left
                      · simp only [Act.put, List.setIfInBounds_toArray, List.set_cons_zero, List.set_cons_succ, i64_w, i32_w]
                        rfl
                      refine one_ (i := 3) (N := some 20) #[true, true, true, true, false, false, true, true, true, true, false, false, false, true, true, false, false, false] rfl rfl (one_of HT_.out (by kernel_rfl)) (by decide) (fun K hK => ?_)
                      refine goes_ Tryd.func28 (by kernel_rfl) rfl #[.int .i64 ((rd_T36 l0 x4_1).f0)] (by rfl) rfl rfl (by (try simp only [List.map_toArray, List.map_cons, List.map_nil]); first | done | rfl | (simp only [List.length_drop, List.length_take]; rfl)) ?_
                      with_reducible refine (strataref17_digits.calls k1 ((rd_T36 l0 x4_1).f0) t134 _ A4.out).mono ?_
                      rintro e w28 ⟨rfl, hb⟩
                      refine ⟨_, rfl, ?_⟩
                      have n0_ := Aside0.mk (blk_below (g := gb133) (o := .cells #[.int .i64 ((rd_T36 l0 x4_1).f0), .int .i64 ((rd_T36 l0 x4_1).f1), .int .i64 ((rd_T36 l0 x4_1).f2), .int .i64 ((rd_T36 l0 x4_1).f3), .int .i64 ((rd_T36 l0 x4_1).f4.f0), .slice A132_5 ((rd_T36 l0 x4_1).f4.f1).length c132_5, .slice A132_6 ((rd_T36 l0 x4_1).f4.f2).length c132_6, .int .i64 ((rd_T36 l0 x4_1).f4.f3), .int .u64 ((rd_T36 l0 x4_1).f4.f4), .int .i64 ((rd_T36 l0 x4_1).f4.f5), .slice A132_10 ((rd_T36 l0 x4_1).f5).length c132_10] 36 (0, 0)) (by (with_reducible repeat (first | refine blk_drewN ?_ _ | refine blk_drew ?_ | refine blk_alloc ?_ _)); exact BK133.out) hb)
                      have n1_ := Aside0.mk (below_step (by repeat (first | (with_reducible first | exact HB.out | apply below_alloc | apply pw_below_drewN | apply below_drew1 | refine below_set ?_ GE133.out) | exact HB.out)) hb)
                      clear BK133
                      clear HB
                      have BK133 := n0_
                      have HB := n1_
                      clear n0_ n1_
                      (try clear hb)
                      (try clear hb2)
                      (try clear hk)
                      (try clear hi)
                      refine hK.out _ _ ⟨(blk_cell BK133.out 0).trans rfl, (blk_cell BK133.out 1).trans rfl, (blk_cell BK133.out 2).trans rfl, (blk_cell BK133.out 3).trans rfl, (blk_cell BK133.out 4).trans rfl, (blk_cell BK133.out 5).trans rfl, (blk_cell BK133.out 6).trans rfl, (blk_cell BK133.out 7).trans rfl, (blk_cell BK133.out 8).trans rfl, (blk_cell BK133.out 9).trans rfl, (blk_cell BK133.out 10).trans rfl⟩ (fun hHeld => ?_)
                      clear hK K
                      refine norm_ (a' := ?_) ?_ ?_
                      rotate_left
                      · show Act.put _ (some 20) _ = _
                        simp only [Act.put, List.setIfInBounds_toArray, List.set_cons_zero, List.set_cons_succ, i64_w, i32_w]
                        rfl
                      refine pure_ (i := 4) (N := some 21) (v := ?_) (a' := ?_) #[true, true, true, true, true, false, true, true, true, true, false, false, false, true, true, false, false, false] rfl rfl (any_of HT_.out (by kernel_rfl)) (fun _ _ _ h => h) (Or.inl ⟨by rfl, ?_⟩) ?_ ?_
                      rotate_left
                      · intro w'
                        go_simp
                        with_reducible rfl
                      rotate_left
                      · simp only [Act.put, List.setIfInBounds_toArray, List.set_cons_zero, List.set_cons_succ, i64_w, i32_w]
                        rfl
                      refine pure_ (i := 5) (N := some 22) (v := ?_) (a' := ?_) #[true, true, true, true, true, true, true, true, true, true, false, false, false, true, true, false, false, false] rfl rfl (any_of HT_.out (by kernel_rfl)) (fun _ _ _ h => h) (Or.inl ⟨by rfl, ?_⟩) ?_ ?_
                      rotate_left
                      · intro w'
                        go_simp
                        with_reducible rfl
                      rotate_left
                      · simp only [Act.put, List.setIfInBounds_toArray, List.set_cons_zero, List.set_cons_succ, i64_w, i32_w]
                        rfl
                      refine one_ (i := 10) (N := some 27) #[true, true, true, true, true, true, true, true, true, true, true, false, false, true, true, false, false, false] rfl rfl (one_of HT_.out (by kernel_rfl)) (by decide) (fun K hK => ?_)
                      refine goes_ Tryd.func29 (by kernel_rfl) rfl #[.int .i64 ((rd_T36 l0 x4_1).f1), .int .i64 ((rd_T36 l0 x4_1).f2)] (by rfl) rfl rfl (by (try simp only [List.map_toArray, List.map_cons, List.map_nil]); first | done | rfl | (simp only [List.length_drop, List.length_take]; rfl)) ?_
                      with_reducible refine (strataref17_head.calls k1 ((rd_T36 l0 x4_1).f1) ((rd_T36 l0 x4_1).f2) t135 _ A7.out).mono ?_
                      rintro e w29 ⟨rfl, hb⟩
                      refine ⟨_, rfl, ?_⟩
                      have n0_ := Aside0.mk (blk_below (g := gb133) (o := .cells #[.int .i64 ((rd_T36 l0 x4_1).f0), .int .i64 ((rd_T36 l0 x4_1).f1), .int .i64 ((rd_T36 l0 x4_1).f2), .int .i64 ((rd_T36 l0 x4_1).f3), .int .i64 ((rd_T36 l0 x4_1).f4.f0), .slice A132_5 ((rd_T36 l0 x4_1).f4.f1).length c132_5, .slice A132_6 ((rd_T36 l0 x4_1).f4.f2).length c132_6, .int .i64 ((rd_T36 l0 x4_1).f4.f3), .int .u64 ((rd_T36 l0 x4_1).f4.f4), .int .i64 ((rd_T36 l0 x4_1).f4.f5), .slice A132_10 ((rd_T36 l0 x4_1).f5).length c132_10] 36 (0, 0)) (by (with_reducible repeat (first | refine blk_drewN ?_ _ | refine blk_drew ?_ | refine blk_alloc ?_ _)); exact BK133.out) hb)
                      have n1_ := Aside0.mk (below_step (by repeat (first | (with_reducible first | exact HB.out | apply below_alloc | apply pw_below_drewN | apply below_drew1 | refine below_set ?_ GE133.out) | exact HB.out)) hb)
                      clear BK133
                      clear HB
                      have BK133 := n0_
                      have HB := n1_
                      clear n0_ n1_
                      (try clear hb)
                      (try clear hb2)
                      (try clear hk)
                      (try clear hi)
                      refine hK.out _ _ ⟨(blk_cell BK133.out 0).trans rfl, (blk_cell BK133.out 1).trans rfl, (blk_cell BK133.out 2).trans rfl, (blk_cell BK133.out 3).trans rfl, (blk_cell BK133.out 4).trans rfl, (blk_cell BK133.out 5).trans rfl, (blk_cell BK133.out 6).trans rfl, (blk_cell BK133.out 7).trans rfl, (blk_cell BK133.out 8).trans rfl, (blk_cell BK133.out 9).trans rfl, (blk_cell BK133.out 10).trans rfl⟩ (fun hHeld => ?_)
                      clear hK K
                      refine norm_ (a' := ?_) ?_ ?_
                      rotate_left
                      · show Act.put _ (some 27) _ = _
                        simp only [Act.put, List.setIfInBounds_toArray, List.set_cons_zero, List.set_cons_succ, i64_w, i32_w]
                        rfl
                      refine pure_ (i := 11) (N := some 28) (v := ?_) (a' := ?_) #[true, true, true, true, true, true, true, true, true, true, true, true, false, true, true, false, false, false] rfl rfl (any_of HT_.out (by kernel_rfl)) (fun _ _ _ h => h) (Or.inl ⟨by rfl, ?_⟩) ?_ ?_
                      rotate_left
                      · intro w'
                        go_simp
                        with_reducible rfl
                      rotate_left
                      · simp only [Act.put, List.setIfInBounds_toArray, List.set_cons_zero, List.set_cons_succ, i64_w, i32_w]
                        rfl
                      refine pure_ (i := 12) (N := some 29) (v := ?_) (a' := ?_) #[true, true, true, true, true, true, true, true, true, true, true, true, true, true, true, false, false, false] rfl rfl (any_of HT_.out (by kernel_rfl)) (fun _ _ _ h => h) (Or.inl ⟨by rfl, ?_⟩) ?_ ?_
                      rotate_left
                      · intro w'
                        go_simp
                        with_reducible rfl
                      rotate_left
                      · simp only [Act.put, List.setIfInBounds_toArray, List.set_cons_zero, List.set_cons_succ, i64_w, i32_w]
                        rfl
                      refine one_ (i := 15) (N := some 32) #[true, true, true, true, true, true, true, true, true, true, true, true, true, true, true, true, false, false] rfl rfl (one_of HT_.out (by kernel_rfl)) (by decide) (fun K hK => ?_)
                      refine goes_ Tryd.func30 (by kernel_rfl) rfl #[.int .i64 ((rd_T36 l0 x4_1).f3)] (by rfl) rfl rfl (by (try simp only [List.map_toArray, List.map_cons, List.map_nil]); first | done | rfl | (simp only [List.length_drop, List.length_take]; rfl)) ?_
                      with_reducible refine (strataref17_code.calls k1 ((rd_T36 l0 x4_1).f3) t136 _ A10.out).mono ?_
                      rintro e w30 ⟨rfl, hb⟩
                      refine ⟨_, rfl, ?_⟩
                      have n0_ := Aside0.mk (blk_below (g := gb133) (o := .cells #[.int .i64 ((rd_T36 l0 x4_1).f0), .int .i64 ((rd_T36 l0 x4_1).f1), .int .i64 ((rd_T36 l0 x4_1).f2), .int .i64 ((rd_T36 l0 x4_1).f3), .int .i64 ((rd_T36 l0 x4_1).f4.f0), .slice A132_5 ((rd_T36 l0 x4_1).f4.f1).length c132_5, .slice A132_6 ((rd_T36 l0 x4_1).f4.f2).length c132_6, .int .i64 ((rd_T36 l0 x4_1).f4.f3), .int .u64 ((rd_T36 l0 x4_1).f4.f4), .int .i64 ((rd_T36 l0 x4_1).f4.f5), .slice A132_10 ((rd_T36 l0 x4_1).f5).length c132_10] 36 (0, 0)) (by (with_reducible repeat (first | refine blk_drewN ?_ _ | refine blk_drew ?_ | refine blk_alloc ?_ _)); exact BK133.out) hb)
                      have n1_ := Aside0.mk (below_step (by repeat (first | (with_reducible first | exact HB.out | apply below_alloc | apply pw_below_drewN | apply below_drew1 | refine below_set ?_ GE133.out) | exact HB.out)) hb)
                      clear BK133
                      clear HB
                      have BK133 := n0_
                      have HB := n1_
                      clear n0_ n1_
                      (try clear hb)
                      (try clear hb2)
                      (try clear hk)
                      (try clear hi)
                      refine hK.out _ _ ⟨(blk_cell BK133.out 0).trans rfl, (blk_cell BK133.out 1).trans rfl, (blk_cell BK133.out 2).trans rfl, (blk_cell BK133.out 3).trans rfl, (blk_cell BK133.out 4).trans rfl, (blk_cell BK133.out 5).trans rfl, (blk_cell BK133.out 6).trans rfl, (blk_cell BK133.out 7).trans rfl, (blk_cell BK133.out 8).trans rfl, (blk_cell BK133.out 9).trans rfl, (blk_cell BK133.out 10).trans rfl⟩ (fun hHeld => ?_)
                      clear hK K
                      refine norm_ (a' := ?_) ?_ ?_
                      rotate_left
                      · show Act.put _ (some 32) _ = _
                        simp only [Act.put, List.setIfInBounds_toArray, List.set_cons_zero, List.set_cons_succ, i64_w, i32_w]
                        rfl
                      refine pure_ (i := 16) (N := some 33) (v := ?_) (a' := ?_) #[true, true, true, true, true, true, true, true, true, true, true, true, true, true, true, true, true, false] rfl rfl (any_of HT_.out (by kernel_rfl)) (fun _ _ _ h => h) (Or.inl ⟨by rfl, ?_⟩) ?_ ?_
                      rotate_left
                      · intro w'
                        go_simp
                        with_reducible rfl
                      rotate_left
                      · simp only [Act.put, List.setIfInBounds_toArray, List.set_cons_zero, List.set_cons_succ, i64_w, i32_w]
                        rfl
                      refine pure_ (i := 17) (N := some 3) (v := ?_) (a' := ?_) #[true, true, true, true, true, true, true, true, true, true, true, true, true, true, true, true, true, true] rfl rfl (any_of HT_.out (by kernel_rfl)) (fun _ _ _ h => h) (Or.inl ⟨by rfl, ?_⟩) ?_ ?_
                      rotate_left
                      · intro w'
                        go_simp
                        with_reducible rfl
                      rotate_left
                      · simp only [Act.put, List.setIfInBounds_toArray, List.set_cons_zero, List.set_cons_succ, i64_w, i32_w]
                        rfl
                      refine done_ (done_of HT_.out (by kernel_rfl)) ?_
                      have hcz31_0 : w30.cell? ⟨gb133, 0, none⟩ = some (.int .i64 ((rd_T36 l0 x4_1).f0)) := (blk_cell BK133.out 0).trans rfl
                      have hcz31_1 : w30.cell? ⟨gb133, 1, none⟩ = some (.int .i64 ((rd_T36 l0 x4_1).f1)) := (blk_cell BK133.out 1).trans rfl
                      have hcz31_2 : w30.cell? ⟨gb133, 2, none⟩ = some (.int .i64 ((rd_T36 l0 x4_1).f2)) := (blk_cell BK133.out 2).trans rfl
                      have hcz31_3 : w30.cell? ⟨gb133, 3, none⟩ = some (.int .i64 ((rd_T36 l0 x4_1).f3)) := (blk_cell BK133.out 3).trans rfl
                      have hcz31_4 : w30.cell? ⟨gb133, 4, none⟩ = some (.int .i64 ((rd_T36 l0 x4_1).f4.f0)) := (blk_cell BK133.out 4).trans rfl
                      have hcz31_5 : w30.cell? ⟨gb133, 5, none⟩ = some (.slice A132_5 ((rd_T36 l0 x4_1).f4.f1).length c132_5) := (blk_cell BK133.out 5).trans rfl
                      have hcz31_6 : w30.cell? ⟨gb133, 6, none⟩ = some (.slice A132_6 ((rd_T36 l0 x4_1).f4.f2).length c132_6) := (blk_cell BK133.out 6).trans rfl
                      have hcz31_7 : w30.cell? ⟨gb133, 7, none⟩ = some (.int .i64 ((rd_T36 l0 x4_1).f4.f3)) := (blk_cell BK133.out 7).trans rfl
                      have hcz31_8 : w30.cell? ⟨gb133, 8, none⟩ = some (.int .u64 ((rd_T36 l0 x4_1).f4.f4)) := (blk_cell BK133.out 8).trans rfl
                      have hcz31_9 : w30.cell? ⟨gb133, 9, none⟩ = some (.int .i64 ((rd_T36 l0 x4_1).f4.f5)) := (blk_cell BK133.out 9).trans rfl
                      have hcz31_10 : w30.cell? ⟨gb133, 10, none⟩ = some (.slice A132_10 ((rd_T36 l0 x4_1).f5).length c132_10) := (blk_cell BK133.out 10).trans rfl
                      have hfz31_0 := blk_frozen BK133.out 0
                      have hfz31_1 := blk_frozen BK133.out 1
                      have hfz31_2 := blk_frozen BK133.out 2
                      have hfz31_3 := blk_frozen BK133.out 3
                      have hfz31_4 := blk_frozen BK133.out 4
                      have hfz31_5 := blk_frozen BK133.out 5
                      have hfz31_6 := blk_frozen BK133.out 6
                      have hfz31_7 := blk_frozen BK133.out 7
                      have hfz31_8 := blk_frozen BK133.out 8
                      have hfz31_9 := blk_frozen BK133.out 9
                      have hfz31_10 := blk_frozen BK133.out 10
                      try go_wp2
                      go_loopg [3, 6] k1 (fun kq v3 v6 w' => ∃ (x3_2 : ByteArray) (x6_2 : Int), v3 = .string x3_2 ∧ v6 = .int .i64 x6_2 ∧ Aside0 (strataref17_Print.l1 kq l0 x3_2 x4_1 x6_2 ((rd_T36 l0 x4_1).f0) ((rd_T36 l0 x4_1).f1) ((rd_T36 l0 x4_1).f2) ((rd_T36 l0 x4_1).f3) ((rd_T36 l0 x4_1).f4.f0) ((rd_T36 l0 x4_1).f4.f1) ((rd_T36 l0 x4_1).f4.f2) ((rd_T36 l0 x4_1).f4.f3) ((rd_T36 l0 x4_1).f4.f4) ((rd_T36 l0 x4_1).f4.f5) ((rd_T36 l0 x4_1).f5) = some r) ∧ Aside0 (kq ≤ k1) ∧ Aside0 (w'.heap[gb133]? = some (.cells #[.int .i64 ((rd_T36 l0 x4_1).f0), .int .i64 ((rd_T36 l0 x4_1).f1), .int .i64 ((rd_T36 l0 x4_1).f2), .int .i64 ((rd_T36 l0 x4_1).f3), .int .i64 ((rd_T36 l0 x4_1).f4.f0), (.slice A132_5 ((rd_T36 l0 x4_1).f4.f1).length c132_5), (.slice A132_6 ((rd_T36 l0 x4_1).f4.f2).length c132_6), .int .i64 ((rd_T36 l0 x4_1).f4.f3), .int .u64 ((rd_T36 l0 x4_1).f4.f4), .int .i64 ((rd_T36 l0 x4_1).f4.f5), (.slice A132_10 ((rd_T36 l0 x4_1).f5).length c132_10)] 36 (0, 0))) ∧ Aside0 (Below w.heap.size w w'))
                      case atStart => exact ⟨(((((x3_1 ++ t134) ++ (⟨#[32]⟩ : ByteArray)) ++ t135) ++ (⟨#[32]⟩ : ByteArray)) ++ t136), (0), (by first | rfl | (simp; done) | (simp [*]; done)), (by first | rfl | (simp; done) | (simp [*]; done)), H', ⟨Nat.le_refl _⟩, ⟨by (with_reducible repeat (first | refine blk_drewN ?_ _ | refine blk_drew ?_ | refine blk_alloc ?_ _)); exact BK133.out⟩, ⟨by repeat (first | (with_reducible first | exact HB.out | apply below_alloc | apply pw_below_drewN | apply below_drew1 | refine below_set ?_ GE133.out) | exact HB.out)⟩⟩
                      case round =>
                        clear H'
                        try clear c1
                        try clear p1
                        try clear q1
                        try clear hx1
                        try clear c2
                        try clear c2b0
                        try clear p2
                        try clear c3
                        try clear c3b0
                        try clear c5
                        try clear c5b0
                        try clear c5b1
                        try clear c5b2
                        try clear c6
                        try clear c6b0
                        try clear c6b1
                        try clear c6b2
                        try clear p6
                        try clear c8
                        try clear c8b0
                        try clear c8b1
                        try clear c8b2
                        try clear c9
                        try clear c9b0
                        try clear c9b1
                        try clear c9b2
                        try clear c11
                        try clear c11b0
                        try clear c11b1
                        try clear c11b2
                        try clear c12
                        try clear c12b0
                        try clear c12b1
                        try clear c13
                        try clear p13
                        try clear q13
                        try clear hx13
                        try clear c14
                        try clear c14b0
                        try clear c14b1
                        try clear c14b2
                        try clear c28
                        try clear c29
                        try clear c30
                        try clear c31
                        try clear hcz16_0
                        try clear hcz16_1
                        try clear hcz16_10
                        try clear hcz16_2
                        try clear hcz16_3
                        try clear hcz16_4
                        try clear hcz16_5
                        try clear hcz16_6
                        try clear hcz16_7
                        try clear hcz16_8
                        try clear hcz16_9
                        try clear hcz22_0
                        try clear hcz22_1
                        try clear hcz22_10
                        try clear hcz22_2
                        try clear hcz22_3
                        try clear hcz22_4
                        try clear hcz22_5
                        try clear hcz22_6
                        try clear hcz22_7
                        try clear hcz22_8
                        try clear hcz22_9
                        try clear hcz25_0
                        try clear hcz25_1
                        try clear hcz25_10
                        try clear hcz25_2
                        try clear hcz25_3
                        try clear hcz25_4
                        try clear hcz25_5
                        try clear hcz25_6
                        try clear hcz25_7
                        try clear hcz25_8
                        try clear hcz25_9
                        try clear hcz31_0
                        try clear hcz31_1
                        try clear hcz31_10
                        try clear hcz31_2
                        try clear hcz31_3
                        try clear hcz31_4
                        try clear hcz31_5
                        try clear hcz31_6
                        try clear hcz31_7
                        try clear hcz31_8
                        try clear hcz31_9
                        try clear hfz16_0
                        try clear hfz16_1
                        try clear hfz16_10
                        try clear hfz16_2
                        try clear hfz16_3
                        try clear hfz16_4
                        try clear hfz16_5
                        try clear hfz16_6
                        try clear hfz16_7
                        try clear hfz16_8
                        try clear hfz16_9
                        try clear hfz22_0
                        try clear hfz22_1
                        try clear hfz22_10
                        try clear hfz22_2
                        try clear hfz22_3
                        try clear hfz22_4
                        try clear hfz22_5
                        try clear hfz22_6
                        try clear hfz22_7
                        try clear hfz22_8
                        try clear hfz22_9
                        try clear hfz25_0
                        try clear hfz25_1
                        try clear hfz25_10
                        try clear hfz25_2
                        try clear hfz25_3
                        try clear hfz25_4
                        try clear hfz25_5
                        try clear hfz25_6
                        try clear hfz25_7
                        try clear hfz25_8
                        try clear hfz25_9
                        try clear hfz31_0
                        try clear hfz31_1
                        try clear hfz31_10
                        try clear hfz31_2
                        try clear hfz31_3
                        try clear hfz31_4
                        try clear hfz31_5
                        try clear hfz31_6
                        try clear hfz31_7
                        try clear hfz31_8
                        try clear hfz31_9
                        try clear hx132_0
                        try clear hx132_1
                        try clear hx132_10
                        try clear hx132_2
                        try clear hx132_3
                        try clear hx132_4
                        try clear hx132_5
                        try clear hx132_6
                        try clear hx132_7
                        try clear hx132_8
                        try clear hx132_9
                        try clear p132
                        try clear q132
                        obtain ⟨x3_2, x6_2, rfl, rfl, HA, HK2, BK133, HB⟩ := hrel
                        cases gk with
                        | zero => exact absurd HA.out (by simp [strataref17_Print.l1])
                        | succ k2 =>
                          have H := HA.out
                          clear HA
                          simp only [strataref17_Print.l1] at H
                          by_cases c32 : x6_2 < (((rd_T36 l0 x4_1).f5).length : Int)
                          · rw [if_pos c32] at H
                            have c32b0 : decide (x6_2 < (((rd_T36 l0 x4_1).f5).length : Int)) = true := decide_eq_true c32
                            clear c32
                            by_cases c33 : x3_2.size + 1 ≤ 9223372036854775807
                            · rw [if_pos c33] at H
                              have c33b0 := eq_true c33
                              have c33b1 : decide (x3_2.size + 1 ≤ 9223372036854775807) = true := decide_eq_true c33
                              try have c33b2 : (9223372036854775807 < x3_2.size + 1) = False := eq_false (Nat.not_lt.2 c33)
                              by_cases c34 : 0 ≤ x6_2
                              · rw [if_pos c34] at H
                                have c34b0 : decide (0 ≤ x6_2) = true := decide_eq_true c34
                                clear c34
                                replace H := Option.bind_eq_some_iff.mp H
                                obtain ⟨t139, A350, H⟩ := H
                                replace H : (if (x3_2 ++ (⟨#[32]⟩ : ByteArray)).size + t139.size ≤ 9223372036854775807 then (strataref17_Print.l1 k2 l0 ((x3_2 ++ (⟨#[32]⟩ : ByteArray)) ++ t139) x4_1 (wrap64 (x6_2 + 1)) ((rd_T36 l0 x4_1).f0) ((rd_T36 l0 x4_1).f1) ((rd_T36 l0 x4_1).f2) ((rd_T36 l0 x4_1).f3) ((rd_T36 l0 x4_1).f4.f0) ((rd_T36 l0 x4_1).f4.f1) ((rd_T36 l0 x4_1).f4.f2) ((rd_T36 l0 x4_1).f4.f3) ((rd_T36 l0 x4_1).f4.f4) ((rd_T36 l0 x4_1).f4.f5) ((rd_T36 l0 x4_1).f5)) else (none)) = some r := H
                                have A35 := Aside0.mk A350
                                clear A350
                                by_cases c36 : (x3_2 ++ (⟨#[32]⟩ : ByteArray)).size + t139.size ≤ 9223372036854775807
                                · rw [if_pos c36] at H
                                  have c36b0 := eq_true c36
                                  have c36b1 : decide ((x3_2 ++ (⟨#[32]⟩ : ByteArray)).size + t139.size ≤ 9223372036854775807) = true := decide_eq_true c36
                                  try have c36b2 : (9223372036854775807 < (x3_2 ++ (⟨#[32]⟩ : ByteArray)).size + t139.size) = False := eq_false (Nat.not_lt.2 c36)
                                  try (have c36b3 := c36b2; simp only [ByteArray.size_append, ByteArray.size_extract] at c36b3)
                                  try (have c36b4 := c36b2; simp only [ByteArray.size_append, ByteArray.size_extract, bsz, List.size_toArray, List.length_cons, List.length_nil, Nat.reduceAdd] at c36b4)
                                  have H' := Aside0.mk H
                                  clear H
                                  have hcz37_0 : wr.cell? ⟨gb133, 0, none⟩ = some (.int .i64 ((rd_T36 l0 x4_1).f0)) := (blk_cell BK133.out 0).trans rfl
                                  have hcz37_1 : wr.cell? ⟨gb133, 1, none⟩ = some (.int .i64 ((rd_T36 l0 x4_1).f1)) := (blk_cell BK133.out 1).trans rfl
                                  have hcz37_2 : wr.cell? ⟨gb133, 2, none⟩ = some (.int .i64 ((rd_T36 l0 x4_1).f2)) := (blk_cell BK133.out 2).trans rfl
                                  have hcz37_3 : wr.cell? ⟨gb133, 3, none⟩ = some (.int .i64 ((rd_T36 l0 x4_1).f3)) := (blk_cell BK133.out 3).trans rfl
                                  have hcz37_4 : wr.cell? ⟨gb133, 4, none⟩ = some (.int .i64 ((rd_T36 l0 x4_1).f4.f0)) := (blk_cell BK133.out 4).trans rfl
                                  have hcz37_5 : wr.cell? ⟨gb133, 5, none⟩ = some (.slice A132_5 ((rd_T36 l0 x4_1).f4.f1).length c132_5) := (blk_cell BK133.out 5).trans rfl
                                  have hcz37_6 : wr.cell? ⟨gb133, 6, none⟩ = some (.slice A132_6 ((rd_T36 l0 x4_1).f4.f2).length c132_6) := (blk_cell BK133.out 6).trans rfl
                                  have hcz37_7 : wr.cell? ⟨gb133, 7, none⟩ = some (.int .i64 ((rd_T36 l0 x4_1).f4.f3)) := (blk_cell BK133.out 7).trans rfl
                                  have hcz37_8 : wr.cell? ⟨gb133, 8, none⟩ = some (.int .u64 ((rd_T36 l0 x4_1).f4.f4)) := (blk_cell BK133.out 8).trans rfl
                                  have hcz37_9 : wr.cell? ⟨gb133, 9, none⟩ = some (.int .i64 ((rd_T36 l0 x4_1).f4.f5)) := (blk_cell BK133.out 9).trans rfl
                                  have hcz37_10 : wr.cell? ⟨gb133, 10, none⟩ = some (.slice A132_10 ((rd_T36 l0 x4_1).f5).length c132_10) := (blk_cell BK133.out 10).trans rfl
                                  have hfz37_0 := blk_frozen BK133.out 0
                                  have hfz37_1 := blk_frozen BK133.out 1
                                  have hfz37_2 := blk_frozen BK133.out 2
                                  have hfz37_3 := blk_frozen BK133.out 3
                                  have hfz37_4 := blk_frozen BK133.out 4
                                  have hfz37_5 := blk_frozen BK133.out 5
                                  have hfz37_6 := blk_frozen BK133.out 6
                                  have hfz37_7 := blk_frozen BK133.out 7
                                  have hfz37_8 := blk_frozen BK133.out 8
                                  have hfz37_9 := blk_frozen BK133.out 9
                                  have hfz37_10 := blk_frozen BK133.out 10
                                  have p138 : 0 ≤ (x6_2 : Int) := of_decide_eq_true (by first | (with_reducible assumption) | assumption)
                                  have q138 : x6_2 < (((rd_T36 l0 x4_1).f5).length : Int) := of_decide_eq_true (by first | (with_reducible assumption) | assumption)
                                  obtain ⟨ad138, e138, hx138_0⟩ := Kd.at_int HR132_10.out x6_2 p138 q138
                                  cases e138
                                  replace hx138_0 := (HB.out.cell (World.block_lt_of_cell? w _ hx138_0)).trans hx138_0
                                  replace p138 := eq_true p138
                                  replace q138 := eq_true q138
                                  go_wp2_with (first | ((with_reducible refine gate_callee (f := 28) rfl ?_); refine goesL_ (some 51) rfl rfl Tryd.func28 (by kernel_rfl) rfl #[.int .i64 (rd ((rd_T36 l0 x4_1).f5) x6_2)] rfl (by (try simp only [List.map_toArray, List.map_cons, List.map_nil]); first | done | rfl | (simp only [List.length_drop, List.length_take]; rfl)) ?_; (with_reducible refine (strataref17_digits.calls k2 (rd ((rd_T36 l0 x4_1).f5) x6_2) t139 _ A35.out).mono ?_); rintro e w38 ⟨rfl, hb⟩; refine ⟨_, rfl, ?_⟩; have n0_ := Aside0.mk (blk_below (g := gb133) (o := .cells #[.int .i64 ((rd_T36 l0 x4_1).f0), .int .i64 ((rd_T36 l0 x4_1).f1), .int .i64 ((rd_T36 l0 x4_1).f2), .int .i64 ((rd_T36 l0 x4_1).f3), .int .i64 ((rd_T36 l0 x4_1).f4.f0), .slice A132_5 ((rd_T36 l0 x4_1).f4.f1).length c132_5, .slice A132_6 ((rd_T36 l0 x4_1).f4.f2).length c132_6, .int .i64 ((rd_T36 l0 x4_1).f4.f3), .int .u64 ((rd_T36 l0 x4_1).f4.f4), .int .i64 ((rd_T36 l0 x4_1).f4.f5), .slice (some ad138) ((rd_T36 l0 x4_1).f5).length c132_10] 36 (0, 0)) (by (with_reducible repeat (first | refine blk_drewN ?_ _ | refine blk_drew ?_ | refine blk_alloc ?_ _)); exact BK133.out) hb); have n1_ := Aside0.mk (below_step (by repeat (first | (with_reducible first | exact HB.out | apply below_alloc | apply pw_below_drewN | apply below_drew1 | refine below_set ?_ GE133.out) | exact HB.out)) hb); clear BK133; clear HB; have BK133 := n0_; have HB := n1_; clear n0_ n1_; (try clear hb); (try clear hb2); (try clear hk); (try clear hi)))
                                  go_roundg k2
                                  case measure => have := HK1.out; have := HK2.out; omega
                                  case rel => exact ⟨((x3_2 ++ (⟨#[32]⟩ : ByteArray)) ++ t139), (wrap64 (x6_2 + 1)), (by first | rfl | (simp; done) | (simp [*]; done)), (by first | rfl | (simp; done) | (simp [*]; done)), H', ⟨by have := HK1.out; have := HK2.out; omega⟩, ⟨by (with_reducible repeat (first | refine blk_drewN ?_ _ | refine blk_drew ?_ | refine blk_alloc ?_ _)); exact BK133.out⟩, ⟨by repeat (first | (with_reducible first | exact HB.out | apply below_alloc | apply pw_below_drewN | apply below_drew1 | refine below_set ?_ GE133.out) | exact HB.out)⟩⟩
                                · rw [if_neg c36] at H
                                  exact absurd H (by simp)
                              · rw [if_neg c34] at H
                                exact absurd H (by simp)
                            · rw [if_neg c33] at H
                              exact absurd H (by simp)
                          · rw [if_neg c32] at H
                            have c32b0 : decide (x6_2 < (((rd_T36 l0 x4_1).f5).length : Int)) = false := decide_eq_false c32
                            clear c32
                            by_cases c39 : x3_2.size + 1 ≤ 9223372036854775807
                            · rw [if_pos c39] at H
                              have c39b0 := eq_true c39
                              have c39b1 : decide (x3_2.size + 1 ≤ 9223372036854775807) = true := decide_eq_true c39
                              try have c39b2 : (9223372036854775807 < x3_2.size + 1) = False := eq_false (Nat.not_lt.2 c39)
                              have H' := Aside0.mk H
                              clear H
                              have hcz40_0 : wr.cell? ⟨gb133, 0, none⟩ = some (.int .i64 ((rd_T36 l0 x4_1).f0)) := (blk_cell BK133.out 0).trans rfl
                              have hcz40_1 : wr.cell? ⟨gb133, 1, none⟩ = some (.int .i64 ((rd_T36 l0 x4_1).f1)) := (blk_cell BK133.out 1).trans rfl
                              have hcz40_2 : wr.cell? ⟨gb133, 2, none⟩ = some (.int .i64 ((rd_T36 l0 x4_1).f2)) := (blk_cell BK133.out 2).trans rfl
                              have hcz40_3 : wr.cell? ⟨gb133, 3, none⟩ = some (.int .i64 ((rd_T36 l0 x4_1).f3)) := (blk_cell BK133.out 3).trans rfl
                              have hcz40_4 : wr.cell? ⟨gb133, 4, none⟩ = some (.int .i64 ((rd_T36 l0 x4_1).f4.f0)) := (blk_cell BK133.out 4).trans rfl
                              have hcz40_5 : wr.cell? ⟨gb133, 5, none⟩ = some (.slice A132_5 ((rd_T36 l0 x4_1).f4.f1).length c132_5) := (blk_cell BK133.out 5).trans rfl
                              have hcz40_6 : wr.cell? ⟨gb133, 6, none⟩ = some (.slice A132_6 ((rd_T36 l0 x4_1).f4.f2).length c132_6) := (blk_cell BK133.out 6).trans rfl
                              have hcz40_7 : wr.cell? ⟨gb133, 7, none⟩ = some (.int .i64 ((rd_T36 l0 x4_1).f4.f3)) := (blk_cell BK133.out 7).trans rfl
                              have hcz40_8 : wr.cell? ⟨gb133, 8, none⟩ = some (.int .u64 ((rd_T36 l0 x4_1).f4.f4)) := (blk_cell BK133.out 8).trans rfl
                              have hcz40_9 : wr.cell? ⟨gb133, 9, none⟩ = some (.int .i64 ((rd_T36 l0 x4_1).f4.f5)) := (blk_cell BK133.out 9).trans rfl
                              have hcz40_10 : wr.cell? ⟨gb133, 10, none⟩ = some (.slice A132_10 ((rd_T36 l0 x4_1).f5).length c132_10) := (blk_cell BK133.out 10).trans rfl
                              have hfz40_0 := blk_frozen BK133.out 0
                              have hfz40_1 := blk_frozen BK133.out 1
                              have hfz40_2 := blk_frozen BK133.out 2
                              have hfz40_3 := blk_frozen BK133.out 3
                              have hfz40_4 := blk_frozen BK133.out 4
                              have hfz40_5 := blk_frozen BK133.out 5
                              have hfz40_6 := blk_frozen BK133.out 6
                              have hfz40_7 := blk_frozen BK133.out 7
                              have hfz40_8 := blk_frozen BK133.out 8
                              have hfz40_9 := blk_frozen BK133.out 9
                              have hfz40_10 := blk_frozen BK133.out 10
                              go_wp2
                              go_roundg k2
                              case measure => have := HK1.out; have := HK2.out; omega
                              case rel => exact ⟨(x3_2 ++ (⟨#[10]⟩ : ByteArray)), (wrap64 (x4_1 + 1)), (by first | rfl | (simp; done) | (simp [*]; done)), (by first | rfl | (simp; done) | (simp [*]; done)), H', ⟨by have := HK1.out; have := HK2.out; omega⟩, ⟨by repeat (first | (with_reducible first | exact HB.out | apply below_alloc | apply pw_below_drewN | apply below_drew1 | refine below_set ?_ GE133.out) | exact HB.out)⟩⟩
                            · rw [if_neg c39] at H
                              exact absurd H (by simp)
                  · rw [if_neg c11] at H
                    exact absurd H (by simp)
                · rw [if_neg c9] at H
                  exact absurd H (by simp)
              · rw [if_neg c8] at H
                exact absurd H (by simp)
            · rw [if_neg c6] at H
              exact absurd H (by simp)
          · rw [if_neg c5] at H
            exact absurd H (by simp)
        · rw [if_neg c3] at H
          exact absurd H (by simp)
      · rw [if_neg c2] at H
        have c2b0 : decide (x4_1 < (l0.length : Int)) = false := decide_eq_false c2
        clear c2
        obtain rfl := Option.some.inj H
        go_wp2
        go_ret
        exact ⟨by first | rfl | (simp [errW_none, errW_some] <;> rfl) | (simp [*, errW_none, errW_some] <;> rfl), by repeat (first | (with_reducible first | exact HB.out | apply below_alloc | apply pw_below_drewN | apply below_drew1) | exact HB.out)⟩

end Go.Proofs.YtggbhdcgfnjogaaDoor.PSp
