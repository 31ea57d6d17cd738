-- Laid by inj.py, a program of this session, which runs the kit's print tool beside contracts typed by hand. Not trusted: Lean checks it.
import Derived.Test.YtggbhdcgfnjogaaDoorPSpx0
import Derived.Test.YtggbhdcgfnjogaaDoorPSpx4
namespace Go.Proofs.YtggbhdcgfnjogaaDoor.PSp
open Go.RowKit Go.Proofs.YtggbhdcgfnjogaaDoorW.PrintWords Go.Proofs.YtggbhdcgfnjogaaDoorW.PrintLast Go.Proofs.YtggbhdcgfnjogaaDoorW.PrintMore
attribute [local go_sem] max2_int min2_int max_two min_two max_three min_three max_four min_four   -- for this text's walks alone
set_option linter.unusedVariables false
set_option linter.unusedSimpArgs false

/-! ### strataref17_result: function 31 -/
mutual
def strataref17_result.j0 : Nat → ByteArray → Int → List ByteArray → List (List (S84)) → Int → Int → Int → Option (ByteArray)
  | 0, _, _, _, _, _, _, _ => none
  | k + 1, x4, x119000, x119001, x119002, x119003, x119004, x119005 => if x119004 = 0 then (strataref17_result.j1 k x4 x119000 x119001 x119002 x119003 x119004 x119005) else (if x4.size + 7 ≤ 9223372036854775807 then ((strataref17_stamp.f k x119004).bind fun t120 => (if (x4 ++ (⟨#[32, 115, 116, 97, 109, 112, 32]⟩ : ByteArray)).size + t120.size ≤ 9223372036854775807 then (strataref17_result.j1 k ((x4 ++ (⟨#[32, 115, 116, 97, 109, 112, 32]⟩ : ByteArray)) ++ t120) x119000 x119001 x119002 x119003 x119004 x119005) else (none))) else (none))
def strataref17_result.j1 : Nat → ByteArray → Int → List ByteArray → List (List (S84)) → Int → Int → Int → Option (ByteArray)
  | 0, _, _, _, _, _, _, _ => none
  | k + 1, x4, x119000, x119001, x119002, x119003, x119004, x119005 => if x119005 = 1 then (if x4.size + 7 ≤ 9223372036854775807 then (strataref17_result.j2 k (x4 ++ (⟨#[32, 99, 111, 109, 109, 105, 116]⟩ : ByteArray)) x119000 x119001 x119002 x119003 x119004 x119005) else (none)) else (strataref17_result.j2 k x4 x119000 x119001 x119002 x119003 x119004 x119005)
def strataref17_result.j2 : Nat → ByteArray → Int → List ByteArray → List (List (S84)) → Int → Int → Int → Option (ByteArray)
  | 0, _, _, _, _, _, _, _ => none
  | k + 1, x4, x119000, x119001, x119002, x119003, x119004, x119005 => if x119005 = 2 then (if x4.size + 6 ≤ 9223372036854775807 then (strataref17_result.j3 k (x4 ++ (⟨#[32, 97, 98, 111, 114, 116]⟩ : ByteArray)) x119000 x119001 x119002 x119003 x119004 x119005) else (none)) else (strataref17_result.j3 k x4 x119000 x119001 x119002 x119003 x119004 x119005)
def strataref17_result.j3 : Nat → ByteArray → Int → List ByteArray → List (List (S84)) → Int → Int → Int → Option (ByteArray)
  | 0, _, _, _, _, _, _, _ => none
  | k + 1, x4, x119000, x119001, x119002, x119003, x119004, x119005 => if x4.size + 1 ≤ 9223372036854775807 then (if (x119001.length : Int) = 0 then (some (x4 ++ (⟨#[10]⟩ : ByteArray))) else (if (x4 ++ (⟨#[10]⟩ : ByteArray)).size + 2 ≤ 9223372036854775807 then (strataref17_result.l0 k ((x4 ++ (⟨#[10]⟩ : ByteArray)) ++ (⟨#[124, 32]⟩ : ByteArray)) 0 x119000 x119001 x119002 x119003 x119004 x119005) else (none))) else (none)
def strataref17_result.l0 : Nat → ByteArray → Int → Int → List ByteArray → List (List (S84)) → Int → Int → Int → Option (ByteArray)
  | 0, _, _, _, _, _, _, _, _ => none
  | k + 1, x4, x5, x119000, x119001, x119002, x119003, x119004, x119005 => if x5 < (x119001.length : Int) then (if x5 > 0 then (if x4.size + 2 ≤ 9223372036854775807 then (if 0 ≤ x5 then ((strataref17_quoted.f (rdOf ByteArray.empty x119001 x5)).bind fun t122 => (if (x4 ++ (⟨#[44, 32]⟩ : ByteArray)).size + t122.size ≤ 9223372036854775807 then (strataref17_result.l0 k ((x4 ++ (⟨#[44, 32]⟩ : ByteArray)) ++ t122) (wrap64 (x5 + 1)) x119000 x119001 x119002 x119003 x119004 x119005) else (none))) else (none)) else (none)) else (if 0 ≤ x5 then ((strataref17_quoted.f (rdOf ByteArray.empty x119001 x5)).bind fun t124 => (if x4.size + t124.size ≤ 9223372036854775807 then (strataref17_result.l0 k (x4 ++ t124) (wrap64 (x5 + 1)) x119000 x119001 x119002 x119003 x119004 x119005) else (none))) else (none))) else (if x4.size + 1 ≤ 9223372036854775807 then (strataref17_result.l1 k (x4 ++ (⟨#[10]⟩ : ByteArray)) 0 x119000 x119001 x119002 x119003 x119004 x119005) else (none))
def strataref17_result.l1 : Nat → ByteArray → Int → Int → List ByteArray → List (List (S84)) → Int → Int → Int → Option (ByteArray)
  | 0, _, _, _, _, _, _, _, _ => none
  | k + 1, x4, x6, x119000, x119001, x119002, x119003, x119004, x119005 => if x6 < (x119002.length : Int) then (if x4.size + 2 ≤ 9223372036854775807 then (strataref17_result.l2 k (x4 ++ (⟨#[32, 32]⟩ : ByteArray)) x6 0 x119000 x119001 x119002 x119003 x119004 x119005) else (none)) else (some x4)
def strataref17_result.l2 : Nat → ByteArray → Int → Int → Int → List ByteArray → List (List (S84)) → Int → Int → Int → Option (ByteArray)
  | 0, _, _, _, _, _, _, _, _, _ => none
  | k + 1, x4, x6, x7, x119000, x119001, x119002, x119003, x119004, x119005 => if 0 ≤ x6 then (if x6 < (x119002.length : Int) then (if x7 < ((rd_L4 x119002 x6).length : Int) then (if x7 > 0 then (if x4.size + 2 ≤ 9223372036854775807 then (if 0 ≤ x7 then ((strataref17_word.f k ((rd_T84 (rd_L4 x119002 x6) x7).f0) ((rd_T84 (rd_L4 x119002 x6) x7).f1) ((rd_T84 (rd_L4 x119002 x6) x7).f2)).bind fun t128 => (if (x4 ++ (⟨#[44, 32]⟩ : ByteArray)).size + t128.size ≤ 9223372036854775807 then (strataref17_result.l2 k ((x4 ++ (⟨#[44, 32]⟩ : ByteArray)) ++ t128) x6 (wrap64 (x7 + 1)) x119000 x119001 x119002 x119003 x119004 x119005) else (none))) else (none)) else (none)) else (if 0 ≤ x7 then ((strataref17_word.f k ((rd_T84 (rd_L4 x119002 x6) x7).f0) ((rd_T84 (rd_L4 x119002 x6) x7).f1) ((rd_T84 (rd_L4 x119002 x6) x7).f2)).bind fun t131 => (if x4.size + t131.size ≤ 9223372036854775807 then (strataref17_result.l2 k (x4 ++ t131) x6 (wrap64 (x7 + 1)) x119000 x119001 x119002 x119003 x119004 x119005) else (none))) else (none))) else (if x4.size + 1 ≤ 9223372036854775807 then (strataref17_result.l1 k (x4 ++ (⟨#[10]⟩ : ByteArray)) (wrap64 (x6 + 1)) x119000 x119001 x119002 x119003 x119004 x119005) else (none))) else (none)) else (none)
end
def strataref17_result.f (k : Nat) (a0_0 : Int) (a0_1 : Int) (a0_2 : Int) (a0_3 : Int) (a0_4 : Int) (l0_5 : List ByteArray) (l0_6 : List (List (S84))) (a0_7 : Int) (a0_8 : Int) (a0_9 : Int) (l0_10 : List Int) : Option (ByteArray) := if a0_7 = 0 then (strataref17_result.j0 k (⟨#[]⟩ : ByteArray) a0_4 l0_5 l0_6 a0_7 a0_8 a0_9) else (if 0 + 7 ≤ 9223372036854775807 then ((strataref17_digits.f k a0_7).bind fun t119 => (if 7 + t119.size ≤ 9223372036854775807 then (strataref17_result.j0 k (((⟨#[]⟩ : ByteArray) ++ (⟨#[32, 99, 111, 117, 110, 116, 32]⟩ : ByteArray)) ++ t119) a0_4 l0_5 l0_6 a0_7 a0_8 a0_9) else (none))) else (none))
theorem strataref17_result.mono_l : ∀ k, (∀ y0 y1 y2 y3 y4 y5 y6, LeO (strataref17_result.j0 k y0 y1 y2 y3 y4 y5 y6) (strataref17_result.j0 (k + 1) y0 y1 y2 y3 y4 y5 y6)) ∧ (∀ y0 y1 y2 y3 y4 y5 y6, LeO (strataref17_result.j1 k y0 y1 y2 y3 y4 y5 y6) (strataref17_result.j1 (k + 1) y0 y1 y2 y3 y4 y5 y6)) ∧ (∀ y0 y1 y2 y3 y4 y5 y6, LeO (strataref17_result.j2 k y0 y1 y2 y3 y4 y5 y6) (strataref17_result.j2 (k + 1) y0 y1 y2 y3 y4 y5 y6)) ∧ (∀ y0 y1 y2 y3 y4 y5 y6, LeO (strataref17_result.j3 k y0 y1 y2 y3 y4 y5 y6) (strataref17_result.j3 (k + 1) y0 y1 y2 y3 y4 y5 y6)) ∧ (∀ y0 y1 y2 y3 y4 y5 y6 y7, LeO (strataref17_result.l0 k y0 y1 y2 y3 y4 y5 y6 y7) (strataref17_result.l0 (k + 1) y0 y1 y2 y3 y4 y5 y6 y7)) ∧ (∀ y0 y1 y2 y3 y4 y5 y6 y7, LeO (strataref17_result.l1 k y0 y1 y2 y3 y4 y5 y6 y7) (strataref17_result.l1 (k + 1) y0 y1 y2 y3 y4 y5 y6 y7)) ∧ (∀ y0 y1 y2 y3 y4 y5 y6 y7 y8, LeO (strataref17_result.l2 k y0 y1 y2 y3 y4 y5 y6 y7 y8) (strataref17_result.l2 (k + 1) y0 y1 y2 y3 y4 y5 y6 y7 y8))
  | 0 => ⟨fun _ _ _ _ _ _ _ r h => by simp [strataref17_result.j0] at h, fun _ _ _ _ _ _ _ r h => by simp [strataref17_result.j1] at h, fun _ _ _ _ _ _ _ r h => by simp [strataref17_result.j2] at h, fun _ _ _ _ _ _ _ r h => by simp [strataref17_result.j3] at h, fun _ _ _ _ _ _ _ _ r h => by simp [strataref17_result.l0] at h, fun _ _ _ _ _ _ _ _ r h => by simp [strataref17_result.l1] at h, fun _ _ _ _ _ _ _ _ _ r h => by simp [strataref17_result.l2] at h⟩
  | k + 1 => by
    obtain ⟨ih0, ih1, ih2, ih3, ih4, ih5, ih6⟩ := strataref17_result.mono_l k
    refine ⟨?_, ?_, ?_, ?_, ?_, ?_, ?_⟩
    · intro y0 y1 y2 y3 y4 y5 y6
      unfold strataref17_result.j0
      repeat' first
      | (with_reducible exact ih0 _ _ _ _ _ _ _)
      | (with_reducible exact ih1 _ _ _ _ _ _ _)
      | (with_reducible exact ih2 _ _ _ _ _ _ _)
      | (with_reducible exact ih3 _ _ _ _ _ _ _)
      | (with_reducible exact ih4 _ _ _ _ _ _ _ _)
      | (with_reducible exact ih5 _ _ _ _ _ _ _ _)
      | (with_reducible exact ih6 _ _ _ _ _ _ _ _ _)
      | (with_reducible exact strataref17_digits.mono _ _)
      | (with_reducible exact strataref17_stamp.mono _ _)
      | (with_reducible exact strataref17_word.mono _ _ _ _)
      | (with_reducible exact LeO.refl _)
      | (with_reducible exact LeO.none _)
      | (with_reducible refine LeO.ite ?_ ?_)
      | (with_reducible refine LeO.bind ?_ (fun _ => ?_))
      | exact ih0 _ _ _ _ _ _ _
      | exact ih1 _ _ _ _ _ _ _
      | exact ih2 _ _ _ _ _ _ _
      | exact ih3 _ _ _ _ _ _ _
      | exact ih4 _ _ _ _ _ _ _ _
      | exact ih5 _ _ _ _ _ _ _ _
      | exact ih6 _ _ _ _ _ _ _ _ _
      | exact strataref17_digits.mono _ _
      | exact strataref17_stamp.mono _ _
      | exact strataref17_word.mono _ _ _ _
      | exact LeO.none _
      | refine LeO.ite ?_ ?_
      | refine LeO.bind ?_ (fun _ => ?_)
    · intro y0 y1 y2 y3 y4 y5 y6
      unfold strataref17_result.j1
      repeat' first
      | (with_reducible exact ih0 _ _ _ _ _ _ _)
      | (with_reducible exact ih1 _ _ _ _ _ _ _)
      | (with_reducible exact ih2 _ _ _ _ _ _ _)
      | (with_reducible exact ih3 _ _ _ _ _ _ _)
      | (with_reducible exact ih4 _ _ _ _ _ _ _ _)
      | (with_reducible exact ih5 _ _ _ _ _ _ _ _)
      | (with_reducible exact ih6 _ _ _ _ _ _ _ _ _)
      | (with_reducible exact strataref17_digits.mono _ _)
      | (with_reducible exact strataref17_stamp.mono _ _)
      | (with_reducible exact strataref17_word.mono _ _ _ _)
      | (with_reducible exact LeO.refl _)
      | (with_reducible exact LeO.none _)
      | (with_reducible refine LeO.ite ?_ ?_)
      | (with_reducible refine LeO.bind ?_ (fun _ => ?_))
      | exact ih0 _ _ _ _ _ _ _
      | exact ih1 _ _ _ _ _ _ _
      | exact ih2 _ _ _ _ _ _ _
      | exact ih3 _ _ _ _ _ _ _
      | exact ih4 _ _ _ _ _ _ _ _
      | exact ih5 _ _ _ _ _ _ _ _
      | exact ih6 _ _ _ _ _ _ _ _ _
      | exact strataref17_digits.mono _ _
      | exact strataref17_stamp.mono _ _
      | exact strataref17_word.mono _ _ _ _
      | exact LeO.none _
      | refine LeO.ite ?_ ?_
      | refine LeO.bind ?_ (fun _ => ?_)
    · intro y0 y1 y2 y3 y4 y5 y6
      unfold strataref17_result.j2
      repeat' first
      | (with_reducible exact ih0 _ _ _ _ _ _ _)
      | (with_reducible exact ih1 _ _ _ _ _ _ _)
      | (with_reducible exact ih2 _ _ _ _ _ _ _)
      | (with_reducible exact ih3 _ _ _ _ _ _ _)
      | (with_reducible exact ih4 _ _ _ _ _ _ _ _)
      | (with_reducible exact ih5 _ _ _ _ _ _ _ _)
      | (with_reducible exact ih6 _ _ _ _ _ _ _ _ _)
      | (with_reducible exact strataref17_digits.mono _ _)
      | (with_reducible exact strataref17_stamp.mono _ _)
      | (with_reducible exact strataref17_word.mono _ _ _ _)
      | (with_reducible exact LeO.refl _)
      | (with_reducible exact LeO.none _)
      | (with_reducible refine LeO.ite ?_ ?_)
      | (with_reducible refine LeO.bind ?_ (fun _ => ?_))
      | exact ih0 _ _ _ _ _ _ _
      | exact ih1 _ _ _ _ _ _ _
      | exact ih2 _ _ _ _ _ _ _
      | exact ih3 _ _ _ _ _ _ _
      | exact ih4 _ _ _ _ _ _ _ _
      | exact ih5 _ _ _ _ _ _ _ _
      | exact ih6 _ _ _ _ _ _ _ _ _
      | exact strataref17_digits.mono _ _
      | exact strataref17_stamp.mono _ _
      | exact strataref17_word.mono _ _ _ _
      | exact LeO.none _
      | refine LeO.ite ?_ ?_
      | refine LeO.bind ?_ (fun _ => ?_)
    · intro y0 y1 y2 y3 y4 y5 y6
      unfold strataref17_result.j3
      repeat' first
      | (with_reducible exact ih0 _ _ _ _ _ _ _)
      | (with_reducible exact ih1 _ _ _ _ _ _ _)
      | (with_reducible exact ih2 _ _ _ _ _ _ _)
      | (with_reducible exact ih3 _ _ _ _ _ _ _)
      | (with_reducible exact ih4 _ _ _ _ _ _ _ _)
      | (with_reducible exact ih5 _ _ _ _ _ _ _ _)
      | (with_reducible exact ih6 _ _ _ _ _ _ _ _ _)
      | (with_reducible exact strataref17_digits.mono _ _)
      | (with_reducible exact strataref17_stamp.mono _ _)
      | (with_reducible exact strataref17_word.mono _ _ _ _)
      | (with_reducible exact LeO.refl _)
      | (with_reducible exact LeO.none _)
      | (with_reducible refine LeO.ite ?_ ?_)
      | (with_reducible refine LeO.bind ?_ (fun _ => ?_))
      | exact ih0 _ _ _ _ _ _ _
      | exact ih1 _ _ _ _ _ _ _
      | exact ih2 _ _ _ _ _ _ _
      | exact ih3 _ _ _ _ _ _ _
      | exact ih4 _ _ _ _ _ _ _ _
      | exact ih5 _ _ _ _ _ _ _ _
      | exact ih6 _ _ _ _ _ _ _ _ _
      | exact strataref17_digits.mono _ _
      | exact strataref17_stamp.mono _ _
      | exact strataref17_word.mono _ _ _ _
      | exact LeO.none _
      | refine LeO.ite ?_ ?_
      | refine LeO.bind ?_ (fun _ => ?_)
    · intro y0 y1 y2 y3 y4 y5 y6 y7
      unfold strataref17_result.l0
      repeat' first
      | (with_reducible exact ih0 _ _ _ _ _ _ _)
      | (with_reducible exact ih1 _ _ _ _ _ _ _)
      | (with_reducible exact ih2 _ _ _ _ _ _ _)
      | (with_reducible exact ih3 _ _ _ _ _ _ _)
      | (with_reducible exact ih4 _ _ _ _ _ _ _ _)
      | (with_reducible exact ih5 _ _ _ _ _ _ _ _)
      | (with_reducible exact ih6 _ _ _ _ _ _ _ _ _)
      | (with_reducible exact strataref17_digits.mono _ _)
      | (with_reducible exact strataref17_stamp.mono _ _)
      | (with_reducible exact strataref17_word.mono _ _ _ _)
      | (with_reducible exact LeO.refl _)
      | (with_reducible exact LeO.none _)
      | (with_reducible refine LeO.ite ?_ ?_)
      | (with_reducible refine LeO.bind ?_ (fun _ => ?_))
      | exact ih0 _ _ _ _ _ _ _
      | exact ih1 _ _ _ _ _ _ _
      | exact ih2 _ _ _ _ _ _ _
      | exact ih3 _ _ _ _ _ _ _
      | exact ih4 _ _ _ _ _ _ _ _
      | exact ih5 _ _ _ _ _ _ _ _
      | exact ih6 _ _ _ _ _ _ _ _ _
      | exact strataref17_digits.mono _ _
      | exact strataref17_stamp.mono _ _
      | exact strataref17_word.mono _ _ _ _
      | exact LeO.none _
      | refine LeO.ite ?_ ?_
      | refine LeO.bind ?_ (fun _ => ?_)
    · intro y0 y1 y2 y3 y4 y5 y6 y7
      unfold strataref17_result.l1
      repeat' first
      | (with_reducible exact ih0 _ _ _ _ _ _ _)
      | (with_reducible exact ih1 _ _ _ _ _ _ _)
      | (with_reducible exact ih2 _ _ _ _ _ _ _)
      | (with_reducible exact ih3 _ _ _ _ _ _ _)
      | (with_reducible exact ih4 _ _ _ _ _ _ _ _)
      | (with_reducible exact ih5 _ _ _ _ _ _ _ _)
      | (with_reducible exact ih6 _ _ _ _ _ _ _ _ _)
      | (with_reducible exact strataref17_digits.mono _ _)
      | (with_reducible exact strataref17_stamp.mono _ _)
      | (with_reducible exact strataref17_word.mono _ _ _ _)
      | (with_reducible exact LeO.refl _)
      | (with_reducible exact LeO.none _)
      | (with_reducible refine LeO.ite ?_ ?_)
      | (with_reducible refine LeO.bind ?_ (fun _ => ?_))
      | exact ih0 _ _ _ _ _ _ _
      | exact ih1 _ _ _ _ _ _ _
      | exact ih2 _ _ _ _ _ _ _
      | exact ih3 _ _ _ _ _ _ _
      | exact ih4 _ _ _ _ _ _ _ _
      | exact ih5 _ _ _ _ _ _ _ _
      | exact ih6 _ _ _ _ _ _ _ _ _
      | exact strataref17_digits.mono _ _
      | exact strataref17_stamp.mono _ _
      | exact strataref17_word.mono _ _ _ _
      | exact LeO.none _
      | refine LeO.ite ?_ ?_
      | refine LeO.bind ?_ (fun _ => ?_)
    · intro y0 y1 y2 y3 y4 y5 y6 y7 y8
      unfold strataref17_result.l2
      repeat' first
      | (with_reducible exact ih0 _ _ _ _ _ _ _)
      | (with_reducible exact ih1 _ _ _ _ _ _ _)
      | (with_reducible exact ih2 _ _ _ _ _ _ _)
      | (with_reducible exact ih3 _ _ _ _ _ _ _)
      | (with_reducible exact ih4 _ _ _ _ _ _ _ _)
      | (with_reducible exact ih5 _ _ _ _ _ _ _ _)
      | (with_reducible exact ih6 _ _ _ _ _ _ _ _ _)
      | (with_reducible exact strataref17_digits.mono _ _)
      | (with_reducible exact strataref17_stamp.mono _ _)
      | (with_reducible exact strataref17_word.mono _ _ _ _)
      | (with_reducible exact LeO.refl _)
      | (with_reducible exact LeO.none _)
      | (with_reducible refine LeO.ite ?_ ?_)
      | (with_reducible refine LeO.bind ?_ (fun _ => ?_))
      | exact ih0 _ _ _ _ _ _ _
      | exact ih1 _ _ _ _ _ _ _
      | exact ih2 _ _ _ _ _ _ _
      | exact ih3 _ _ _ _ _ _ _
      | exact ih4 _ _ _ _ _ _ _ _
      | exact ih5 _ _ _ _ _ _ _ _
      | exact ih6 _ _ _ _ _ _ _ _ _
      | exact strataref17_digits.mono _ _
      | exact strataref17_stamp.mono _ _
      | exact strataref17_word.mono _ _ _ _
      | exact LeO.none _
      | refine LeO.ite ?_ ?_
      | refine LeO.bind ?_ (fun _ => ?_)
theorem strataref17_result.mono : ∀ a0 a1 a2 a3 a4 a5 a6 a7 a8 a9 a10 k, LeO (strataref17_result.f k a0 a1 a2 a3 a4 a5 a6 a7 a8 a9 a10) (strataref17_result.f (k + 1) a0 a1 a2 a3 a4 a5 a6 a7 a8 a9 a10) := by
  intro a0 a1 a2 a3 a4 a5 a6 a7 a8 a9 a10 k
  obtain ⟨ih0, ih1, ih2, ih3, ih4, ih5, ih6⟩ := strataref17_result.mono_l k
  unfold strataref17_result.f
  repeat' first
      | (with_reducible exact ih0 _ _ _ _ _ _ _)
      | (with_reducible exact ih1 _ _ _ _ _ _ _)
      | (with_reducible exact ih2 _ _ _ _ _ _ _)
      | (with_reducible exact ih3 _ _ _ _ _ _ _)
      | (with_reducible exact ih4 _ _ _ _ _ _ _ _)
      | (with_reducible exact ih5 _ _ _ _ _ _ _ _)
      | (with_reducible exact ih6 _ _ _ _ _ _ _ _ _)
      | (with_reducible exact strataref17_digits.mono _ _)
      | (with_reducible exact strataref17_stamp.mono _ _)
      | (with_reducible exact strataref17_word.mono _ _ _ _)
      | (with_reducible exact LeO.refl _)
      | (with_reducible exact LeO.none _)
      | (with_reducible refine LeO.ite ?_ ?_)
      | (with_reducible refine LeO.bind ?_ (fun _ => ?_))
      | exact ih0 _ _ _ _ _ _ _
      | exact ih1 _ _ _ _ _ _ _
      | exact ih2 _ _ _ _ _ _ _
      | exact ih3 _ _ _ _ _ _ _
      | exact ih4 _ _ _ _ _ _ _ _
      | exact ih5 _ _ _ _ _ _ _ _
      | exact ih6 _ _ _ _ _ _ _ _ _
      | exact strataref17_digits.mono _ _
      | exact strataref17_stamp.mono _ _
      | exact strataref17_word.mono _ _ _ _
      | exact LeO.none _
      | refine LeO.ite ?_ ?_
      | refine LeO.bind ?_ (fun _ => ?_)
set_option maxHeartbeats 8000000 in
set_option maxRecDepth 100000 in
theorem strataref17_result.calls (k : Nat) (a0_0 : Int) (a0_1 : Int) (a0_2 : Int) (a0_3 : Int) (a0_4 : Int) (A0_5 : Option Addr) (c0_5 : Nat) (l0_5 : List ByteArray) (A0_6 : Option Addr) (c0_6 : Nat) (l0_6 : List (List (S84))) (a0_7 : Int) (a0_8 : Int) (a0_9 : Int) (A0_10 : Option Addr) (c0_10 : Nat) (l0_10 : List Int) (r : ByteArray) (w : World) (hr0_5 : Kd.C Kd.string w A0_5 l0_5.length l0_5) (hc0_5 : l0_5.length ≤ c0_5) (hr0_6 : Kd.C (Kd.slice 84 k84) w A0_6 l0_6.length l0_6) (hc0_6 : l0_6.length ≤ c0_6) (hr0_10 : Kd.C (Kd.int .i64) w A0_10 l0_10.length l0_10) (hc0_10 : l0_10.length ≤ c0_10) (h : strataref17_result.f k a0_0 a0_1 a0_2 a0_3 a0_4 l0_5 l0_6 a0_7 a0_8 a0_9 l0_10 = some r) :
    Calls Tryd.prog 31 #[.agg #[.int .i64 a0_0, .int .i64 a0_1, .int .i64 a0_2, .int .i64 a0_3, .int .i64 a0_4, .slice A0_5 l0_5.length c0_5, .slice A0_6 l0_6.length c0_6, .int .i64 a0_7, .int .u64 a0_8, .int .i64 a0_9, .slice A0_10 l0_10.length c0_10]] w fun e w' => e = .returned (.string r) ∧ Below w.heap.size w w' := by
  have hu36 := Tryd.underlying36
  have hu34 := Tryd.underlying34
  have hu84 := Tryd.underlying84
  have HR0_5 := Aside0.mk hr0_5
  have HC0_5 := Aside0.mk hc0_5
  clear hr0_5 hc0_5
  have HR0_6 := Aside0.mk hr0_6
  have HC0_6 := Aside0.mk hc0_6
  clear hr0_6 hc0_6
  have HR0_10 := Aside0.mk hr0_10
  have HC0_10 := Aside0.mk hc0_10
  clear hr0_10 hc0_10
  have HB := Aside0.mk (Below.refl w.heap.size w)
  have H : (if a0_7 = 0 then (strataref17_result.j0 k (⟨#[]⟩ : ByteArray) a0_4 l0_5 l0_6 a0_7 a0_8 a0_9) else (if 0 + 7 ≤ 9223372036854775807 then ((strataref17_digits.f k a0_7).bind fun t119 => (if 7 + t119.size ≤ 9223372036854775807 then (strataref17_result.j0 k (((⟨#[]⟩ : ByteArray) ++ (⟨#[32, 99, 111, 117, 110, 116, 32]⟩ : ByteArray)) ++ t119) a0_4 l0_5 l0_6 a0_7 a0_8 a0_9) else (none))) else (none))) = some r := h
  clear h
  have HC2 := Aside0.mk H
  clear H
  go_enter Tryd.func31, Tryd.ntmps31
  go_upto_if 12 with (first | ((with_reducible refine gate_dst (N := 1) rfl ?_); refine box_event ?hg (N := 1) ?hd (cs := #[.int .i64 a0_0, .int .i64 a0_1, .int .i64 a0_2, .int .i64 a0_3, .int .i64 a0_4, .slice A0_5 l0_5.length c0_5, .slice A0_6 l0_6.length c0_6, .int .i64 a0_7, .int .u64 a0_8, .int .i64 a0_9, .slice A0_10 l0_10.length c0_10]) (t := 36) ?hr ?_; (case hd => rfl); (case hg => rfl); (case hr => first | (go_simp; done) | (go_simp; rfl)); intro gb117 hg w3 hbox hb; have n0_ := Aside0.mk (below_step (by repeat (first | (with_reducible first | exact HB.out | apply below_alloc | apply pw_below_drewN | apply below_drew1) | exact HB.out)) hb); have n1_ := Aside0.mk (hbox); have n2_ := Aside0.mk ((by rw [hg]; exact (below_size (by repeat (first | (with_reducible first | exact HB.out | apply below_alloc | apply pw_below_drewN | apply below_drew1) | exact HB.out))) : w.heap.size ≤ gb117)); have n3_ := Aside0.mk ((by rw [hg]; exact (below_size (by repeat (first | (with_reducible first | exact HB.out | apply below_alloc | apply pw_below_drewN | apply below_drew1) | exact HB.out))) : w.heap.size ≤ gb117)); clear HB; have HB := n0_; have BK117 := n1_; have GW117 := n2_; have GE117 := n3_; clear n0_ n1_ n2_ n3_; clear hb hbox hg; have hcz4_0 : w3.cell? ⟨gb117, 0, none⟩ = some (.int .i64 a0_0) := (blk_cell BK117.out 0).trans rfl; have hcz4_1 : w3.cell? ⟨gb117, 1, none⟩ = some (.int .i64 a0_1) := (blk_cell BK117.out 1).trans rfl; have hcz4_2 : w3.cell? ⟨gb117, 2, none⟩ = some (.int .i64 a0_2) := (blk_cell BK117.out 2).trans rfl; have hcz4_3 : w3.cell? ⟨gb117, 3, none⟩ = some (.int .i64 a0_3) := (blk_cell BK117.out 3).trans rfl; have hcz4_4 : w3.cell? ⟨gb117, 4, none⟩ = some (.int .i64 a0_4) := (blk_cell BK117.out 4).trans rfl; have hcz4_5 : w3.cell? ⟨gb117, 5, none⟩ = some (.slice A0_5 l0_5.length c0_5) := (blk_cell BK117.out 5).trans rfl; have hcz4_6 : w3.cell? ⟨gb117, 6, none⟩ = some (.slice A0_6 l0_6.length c0_6) := (blk_cell BK117.out 6).trans rfl; have hcz4_7 : w3.cell? ⟨gb117, 7, none⟩ = some (.int .i64 a0_7) := (blk_cell BK117.out 7).trans rfl; have hcz4_8 : w3.cell? ⟨gb117, 8, none⟩ = some (.int .u64 a0_8) := (blk_cell BK117.out 8).trans rfl; have hcz4_9 : w3.cell? ⟨gb117, 9, none⟩ = some (.int .i64 a0_9) := (blk_cell BK117.out 9).trans rfl; have hcz4_10 : w3.cell? ⟨gb117, 10, none⟩ = some (.slice A0_10 l0_10.length c0_10) := (blk_cell BK117.out 10).trans rfl; have hfz4_0 := blk_frozen BK117.out 0; have hfz4_1 := blk_frozen BK117.out 1; have hfz4_2 := blk_frozen BK117.out 2; have hfz4_3 := blk_frozen BK117.out 3; have hfz4_4 := blk_frozen BK117.out 4; have hfz4_5 := blk_frozen BK117.out 5; have hfz4_6 := blk_frozen BK117.out 6; have hfz4_7 := blk_frozen BK117.out 7; have hfz4_8 := blk_frozen BK117.out 8; have hfz4_9 := blk_frozen BK117.out 9; have hfz4_10 := blk_frozen BK117.out 10) | ((with_reducible refine gate_dst (N := 3) rfl ?_); refine box_event ?hg (N := 3) ?hd (cs := #[.int .i64 0, .slice none 0 0, .slice none 0 0, .int .i64 0, .int .u64 0, .int .i64 0]) (t := 34) ?hr ?_; (case hd => rfl); (case hg => rfl); (case hr => first | (go_simp; done) | (go_simp; rfl)); intro gb118 hg w5 hbox hb; have n0_ := Aside0.mk (blk_below (g := gb117) (o := .cells #[.int .i64 a0_0, .int .i64 a0_1, .int .i64 a0_2, .int .i64 a0_3, .int .i64 a0_4, .slice A0_5 l0_5.length c0_5, .slice A0_6 l0_6.length c0_6, .int .i64 a0_7, .int .u64 a0_8, .int .i64 a0_9, .slice A0_10 l0_10.length c0_10] 36 (0, 0)) (by (with_reducible repeat (first | refine blk_drewN ?_ _ | refine blk_drew ?_ | refine blk_alloc ?_ _)); exact BK117.out) hb); have n1_ := Aside0.mk (below_step (by repeat (first | (with_reducible first | exact HB.out | apply below_alloc | apply pw_below_drewN | apply below_drew1 | refine below_set ?_ GE117.out) | exact HB.out)) hb); have n2_ := Aside0.mk (hbox); have n3_ := Aside0.mk ((by rw [hg]; exact (below_size (by repeat (first | (with_reducible first | exact HB.out | apply below_alloc | apply pw_below_drewN | apply below_drew1 | refine below_set ?_ GE117.out) | exact HB.out))) : w.heap.size ≤ gb118)); have n4_ := Aside0.mk ((by rw [hg]; exact (below_size (by repeat (first | (with_reducible first | exact HB.out | apply below_alloc | apply pw_below_drewN | apply below_drew1 | refine below_set ?_ GE117.out) | exact HB.out))) : w.heap.size ≤ gb118)); have n5_ := Aside0.mk ((by rw [hg]; exact Nat.ne_of_lt (blk_lt (g := gb117) (o := .cells #[.int .i64 a0_0, .int .i64 a0_1, .int .i64 a0_2, .int .i64 a0_3, .int .i64 a0_4, .slice A0_5 l0_5.length c0_5, .slice A0_6 l0_6.length c0_6, .int .i64 a0_7, .int .u64 a0_8, .int .i64 a0_9, .slice A0_10 l0_10.length c0_10] 36 (0, 0)) (by (with_reducible repeat (first | refine blk_drewN ?_ _ | refine blk_drew ?_ | refine blk_alloc ?_ _)); exact BK117.out)) : gb117 ≠ gb118)); have n6_ := Aside0.mk ((by rw [hg]; exact Nat.ne_of_gt (blk_lt (g := gb117) (o := .cells #[.int .i64 a0_0, .int .i64 a0_1, .int .i64 a0_2, .int .i64 a0_3, .int .i64 a0_4, .slice A0_5 l0_5.length c0_5, .slice A0_6 l0_6.length c0_6, .int .i64 a0_7, .int .u64 a0_8, .int .i64 a0_9, .slice A0_10 l0_10.length c0_10] 36 (0, 0)) (by (with_reducible repeat (first | refine blk_drewN ?_ _ | refine blk_drew ?_ | refine blk_alloc ?_ _)); exact BK117.out)) : gb118 ≠ gb117)); clear BK117; clear HB; have BK117 := n0_; have HB := n1_; have BK118 := n2_; have GW118 := n3_; have GE118 := n4_; have NB117_118 := n5_; have NB118_117 := n6_; clear n0_ n1_ n2_ n3_ n4_ n5_ n6_; clear hb hbox hg; have hnb6 := NB118_117.out; have hnc6 := NB117_118.out; have hcz7_0 : w5.cell? ⟨gb118, 0, none⟩ = some (.int .i64 0) := (blk_cell BK118.out 0).trans rfl; have hcz7_1 : w5.cell? ⟨gb118, 1, none⟩ = some (.slice none 0 0) := (blk_cell BK118.out 1).trans rfl; have hcz7_2 : w5.cell? ⟨gb118, 2, none⟩ = some (.slice none 0 0) := (blk_cell BK118.out 2).trans rfl; have hcz7_3 : w5.cell? ⟨gb118, 3, none⟩ = some (.int .i64 0) := (blk_cell BK118.out 3).trans rfl; have hcz7_4 : w5.cell? ⟨gb118, 4, none⟩ = some (.int .u64 0) := (blk_cell BK118.out 4).trans rfl; have hcz7_5 : w5.cell? ⟨gb118, 5, none⟩ = some (.int .i64 0) := (blk_cell BK118.out 5).trans rfl; have hfz7_0 := blk_frozen BK118.out 0; have hfz7_1 := blk_frozen BK118.out 1; have hfz7_2 := blk_frozen BK118.out 2; have hfz7_3 := blk_frozen BK118.out 3; have hfz7_4 := blk_frozen BK118.out 4; have hfz7_5 := blk_frozen BK118.out 5))
  (try simp only [Act.put, List.setIfInBounds_toArray, List.set_cons_zero, List.set_cons_succ])
  go_cut [4] (fun v4 wc => ∃ (kq : Nat) (x4_1 : ByteArray), v4 = .string x4_1 ∧ Aside0 (strataref17_result.j0 kq x4_1 a0_4 l0_5 l0_6 a0_7 a0_8 a0_9 = some r) ∧ Aside0 (kq ≤ k) ∧ Aside0 (wc.heap[gb117]? = some (.cells #[.int .i64 a0_0, .int .i64 a0_1, .int .i64 a0_2, .int .i64 a0_3, .int .i64 a0_4, (.slice A0_5 l0_5.length c0_5), (.slice A0_6 l0_6.length c0_6), .int .i64 a0_7, .int .u64 a0_8, .int .i64 a0_9, (.slice A0_10 l0_10.length c0_10)] 36 (0, 0))) ∧ Aside0 (wc.heap[gb118]? = some (.cells #[.int .i64 a0_4, (.slice A0_5 l0_5.length c0_5), (.slice A0_6 l0_6.length c0_6), .int .i64 a0_7, .int .u64 a0_8, .int .i64 a0_9] 34 (0, 0))) ∧ Aside0 (Below w.heap.size w wc))
  case first =>
    have H := HC2.out
    clear HC2
    by_cases c8 : a0_7 = 0
    · rw [if_pos c8] at H
      have c8b0 : (a0_7 == 0) = true := beq_iff_eq.mpr c8
      have c8b1 : (a0_7 != 0) = false := bne_eq_false_iff_eq.mpr c8
      clear c8
      (first | rw [c8b0] | (simp only [i64_w, i32_w]; rw [c8b0]) | skip)
      have H' := Aside0.mk H
      clear H
      go_wp2
      go_meet
      case rel => exact ⟨_, ((⟨#[]⟩ : ByteArray)), (by first | rfl | (simp; done) | (simp [*]; done)), H', ⟨by first | omega | exact Nat.le_refl _⟩, ⟨by (with_reducible repeat (first | refine blk_drewN ?_ _ | refine blk_drew ?_ | refine blk_alloc ?_ _)); refine blk_far ?_ NB117_118.out _; (with_reducible repeat (first | refine blk_drewN ?_ _ | refine blk_drew ?_ | refine blk_alloc ?_ _)); refine blk_far ?_ NB117_118.out _; (with_reducible repeat (first | refine blk_drewN ?_ _ | refine blk_drew ?_ | refine blk_alloc ?_ _)); refine blk_far ?_ NB117_118.out _; (with_reducible repeat (first | refine blk_drewN ?_ _ | refine blk_drew ?_ | refine blk_alloc ?_ _)); refine blk_far ?_ NB117_118.out _; (with_reducible repeat (first | refine blk_drewN ?_ _ | refine blk_drew ?_ | refine blk_alloc ?_ _)); refine blk_far ?_ NB117_118.out _; (with_reducible repeat (first | refine blk_drewN ?_ _ | refine blk_drew ?_ | refine blk_alloc ?_ _)); refine blk_far ?_ NB117_118.out _; (with_reducible repeat (first | refine blk_drewN ?_ _ | refine blk_drew ?_ | refine blk_alloc ?_ _)); exact BK117.out⟩, ⟨by (with_reducible repeat (first | refine blk_drewN ?_ _ | refine blk_drew ?_ | refine blk_alloc ?_ _)); refine blk_put (cs := #[.int .i64 a0_4, .slice A0_5 l0_5.length c0_5, .slice A0_6 l0_6.length c0_6, .int .i64 a0_7, .int .u64 a0_8, .int .i64 0]) ?_ 5 _ rfl; (with_reducible repeat (first | refine blk_drewN ?_ _ | refine blk_drew ?_ | refine blk_alloc ?_ _)); refine blk_put (cs := #[.int .i64 a0_4, .slice A0_5 l0_5.length c0_5, .slice A0_6 l0_6.length c0_6, .int .i64 a0_7, .int .u64 0, .int .i64 0]) ?_ 4 _ rfl; (with_reducible repeat (first | refine blk_drewN ?_ _ | refine blk_drew ?_ | refine blk_alloc ?_ _)); refine blk_put (cs := #[.int .i64 a0_4, .slice A0_5 l0_5.length c0_5, .slice A0_6 l0_6.length c0_6, .int .i64 0, .int .u64 0, .int .i64 0]) ?_ 3 _ rfl; (with_reducible repeat (first | refine blk_drewN ?_ _ | refine blk_drew ?_ | refine blk_alloc ?_ _)); refine blk_put (cs := #[.int .i64 a0_4, .slice A0_5 l0_5.length c0_5, .slice none 0 0, .int .i64 0, .int .u64 0, .int .i64 0]) ?_ 2 _ rfl; (with_reducible repeat (first | refine blk_drewN ?_ _ | refine blk_drew ?_ | refine blk_alloc ?_ _)); refine blk_put (cs := #[.int .i64 a0_4, .slice none 0 0, .slice none 0 0, .int .i64 0, .int .u64 0, .int .i64 0]) ?_ 1 _ rfl; (with_reducible repeat (first | refine blk_drewN ?_ _ | refine blk_drew ?_ | refine blk_alloc ?_ _)); refine blk_put (cs := #[.int .i64 0, .slice none 0 0, .slice none 0 0, .int .i64 0, .int .u64 0, .int .i64 0]) ?_ 0 _ rfl; (with_reducible repeat (first | refine blk_drewN ?_ _ | refine blk_drew ?_ | refine blk_alloc ?_ _)); exact BK118.out⟩, ⟨by repeat (first | (with_reducible first | exact HB.out | apply below_alloc | apply pw_below_drewN | apply below_drew1 | refine below_set ?_ GE117.out | refine below_set ?_ GE118.out) | exact HB.out)⟩⟩
    · rw [if_neg c8] at H
      have c8b0 : (a0_7 == 0) = false := beq_eq_false_iff_ne.mpr c8
      have c8b1 : (a0_7 != 0) = true := bne_iff_ne.mpr c8
      (first | rw [c8b0] | (simp only [i64_w, i32_w]; rw [c8b0]) | skip)
      by_cases c9 : 0 + 7 ≤ 9223372036854775807
      · rw [if_pos c9] at H
        have c9b0 := eq_true c9
        have c9b1 : decide (0 + 7 ≤ 9223372036854775807) = true := decide_eq_true c9
        try have c9b2 : (9223372036854775807 < 0 + 7) = False := eq_false (Nat.not_lt.2 c9)
        replace H := Option.bind_eq_some_iff.mp H
        obtain ⟨t119, A100, H⟩ := H
        replace H : (if 7 + t119.size ≤ 9223372036854775807 then (strataref17_result.j0 k (((⟨#[]⟩ : ByteArray) ++ (⟨#[32, 99, 111, 117, 110, 116, 32]⟩ : ByteArray)) ++ t119) a0_4 l0_5 l0_6 a0_7 a0_8 a0_9) else (none)) = some r := H
        have A10 := Aside0.mk A100
        clear A100
        by_cases c11 : 7 + t119.size ≤ 9223372036854775807
        · rw [if_pos c11] at H
          have c11b0 := eq_true c11
          have c11b1 : decide (7 + t119.size ≤ 9223372036854775807) = true := decide_eq_true c11
          try have c11b2 : (9223372036854775807 < 7 + t119.size) = False := eq_false (Nat.not_lt.2 c11)
          have H' := Aside0.mk H
          clear H
          have hnb12 := NB118_117.out
          have hnc12 := NB117_118.out
          have hcz13_0 : w5.cell? ⟨gb118, 0, none⟩ = some (.int .i64 0) := (blk_cell BK118.out 0).trans rfl
          have hcz13_1 : w5.cell? ⟨gb118, 1, none⟩ = some (.slice none 0 0) := (blk_cell BK118.out 1).trans rfl
          have hcz13_2 : w5.cell? ⟨gb118, 2, none⟩ = some (.slice none 0 0) := (blk_cell BK118.out 2).trans rfl
          have hcz13_3 : w5.cell? ⟨gb118, 3, none⟩ = some (.int .i64 0) := (blk_cell BK118.out 3).trans rfl
          have hcz13_4 : w5.cell? ⟨gb118, 4, none⟩ = some (.int .u64 0) := (blk_cell BK118.out 4).trans rfl
          have hcz13_5 : w5.cell? ⟨gb118, 5, none⟩ = some (.int .i64 0) := (blk_cell BK118.out 5).trans rfl
          have hfz13_0 := blk_frozen BK118.out 0
          have hfz13_1 := blk_frozen BK118.out 1
          have hfz13_2 := blk_frozen BK118.out 2
          have hfz13_3 := blk_frozen BK118.out 3
          have hfz13_4 := blk_frozen BK118.out 4
          have hfz13_5 := blk_frozen BK118.out 5
          go_wp2_with (first | ((with_reducible refine gate_callee (f := 28) rfl ?_); refine goesL_ (some 17) rfl rfl Tryd.func28 (by kernel_rfl) rfl #[.int .i64 a0_7] rfl (by (try simp only [List.map_toArray, List.map_cons, List.map_nil]); first | done | rfl | (simp only [List.length_drop, List.length_take]; rfl)) ?_; (with_reducible refine (strataref17_digits.calls k a0_7 t119 _ A10.out).mono ?_); rintro e w14 ⟨rfl, hb⟩; refine ⟨_, rfl, ?_⟩; have n0_ := Aside0.mk (blk_below (g := gb117) (o := .cells #[.int .i64 a0_0, .int .i64 a0_1, .int .i64 a0_2, .int .i64 a0_3, .int .i64 a0_4, .slice A0_5 l0_5.length c0_5, .slice A0_6 l0_6.length c0_6, .int .i64 a0_7, .int .u64 a0_8, .int .i64 a0_9, .slice A0_10 l0_10.length c0_10] 36 (0, 0)) (by (with_reducible repeat (first | refine blk_drewN ?_ _ | refine blk_drew ?_ | refine blk_alloc ?_ _)); refine blk_far ?_ NB117_118.out _; (with_reducible repeat (first | refine blk_drewN ?_ _ | refine blk_drew ?_ | refine blk_alloc ?_ _)); refine blk_far ?_ NB117_118.out _; (with_reducible repeat (first | refine blk_drewN ?_ _ | refine blk_drew ?_ | refine blk_alloc ?_ _)); refine blk_far ?_ NB117_118.out _; (with_reducible repeat (first | refine blk_drewN ?_ _ | refine blk_drew ?_ | refine blk_alloc ?_ _)); refine blk_far ?_ NB117_118.out _; (with_reducible repeat (first | refine blk_drewN ?_ _ | refine blk_drew ?_ | refine blk_alloc ?_ _)); refine blk_far ?_ NB117_118.out _; (with_reducible repeat (first | refine blk_drewN ?_ _ | refine blk_drew ?_ | refine blk_alloc ?_ _)); refine blk_far ?_ NB117_118.out _; (with_reducible repeat (first | refine blk_drewN ?_ _ | refine blk_drew ?_ | refine blk_alloc ?_ _)); exact BK117.out) hb); have n1_ := Aside0.mk (blk_below (g := gb118) (o := .cells #[.int .i64 a0_4, .slice A0_5 l0_5.length c0_5, .slice A0_6 l0_6.length c0_6, .int .i64 a0_7, .int .u64 a0_8, .int .i64 a0_9] 34 (0, 0)) (by (with_reducible repeat (first | refine blk_drewN ?_ _ | refine blk_drew ?_ | refine blk_alloc ?_ _)); refine blk_put (cs := #[.int .i64 a0_4, .slice A0_5 l0_5.length c0_5, .slice A0_6 l0_6.length c0_6, .int .i64 a0_7, .int .u64 a0_8, .int .i64 0]) ?_ 5 _ rfl; (with_reducible repeat (first | refine blk_drewN ?_ _ | refine blk_drew ?_ | refine blk_alloc ?_ _)); refine blk_put (cs := #[.int .i64 a0_4, .slice A0_5 l0_5.length c0_5, .slice A0_6 l0_6.length c0_6, .int .i64 a0_7, .int .u64 0, .int .i64 0]) ?_ 4 _ rfl; (with_reducible repeat (first | refine blk_drewN ?_ _ | refine blk_drew ?_ | refine blk_alloc ?_ _)); refine blk_put (cs := #[.int .i64 a0_4, .slice A0_5 l0_5.length c0_5, .slice A0_6 l0_6.length c0_6, .int .i64 0, .int .u64 0, .int .i64 0]) ?_ 3 _ rfl; (with_reducible repeat (first | refine blk_drewN ?_ _ | refine blk_drew ?_ | refine blk_alloc ?_ _)); refine blk_put (cs := #[.int .i64 a0_4, .slice A0_5 l0_5.length c0_5, .slice none 0 0, .int .i64 0, .int .u64 0, .int .i64 0]) ?_ 2 _ rfl; (with_reducible repeat (first | refine blk_drewN ?_ _ | refine blk_drew ?_ | refine blk_alloc ?_ _)); refine blk_put (cs := #[.int .i64 a0_4, .slice none 0 0, .slice none 0 0, .int .i64 0, .int .u64 0, .int .i64 0]) ?_ 1 _ rfl; (with_reducible repeat (first | refine blk_drewN ?_ _ | refine blk_drew ?_ | refine blk_alloc ?_ _)); refine blk_put (cs := #[.int .i64 0, .slice none 0 0, .slice none 0 0, .int .i64 0, .int .u64 0, .int .i64 0]) ?_ 0 _ rfl; (with_reducible repeat (first | refine blk_drewN ?_ _ | refine blk_drew ?_ | refine blk_alloc ?_ _)); exact BK118.out) hb); have n2_ := Aside0.mk (below_step (by repeat (first | (with_reducible first | exact HB.out | apply below_alloc | apply pw_below_drewN | apply below_drew1 | refine below_set ?_ GE117.out | refine below_set ?_ GE118.out) | exact HB.out)) hb); clear BK117; clear BK118; clear HB; have BK117 := n0_; have BK118 := n1_; have HB := n2_; clear n0_ n1_ n2_; (try clear hb); (try clear hb2); (try clear hk); (try clear hi)))
          go_meet
          case rel => exact ⟨_, (((⟨#[]⟩ : ByteArray) ++ (⟨#[32, 99, 111, 117, 110, 116, 32]⟩ : ByteArray)) ++ t119), (by first | rfl | (simp; done) | (simp [*]; done)), H', ⟨by first | omega | exact Nat.le_refl _⟩, ⟨by (with_reducible repeat (first | refine blk_drewN ?_ _ | refine blk_drew ?_ | refine blk_alloc ?_ _)); exact BK117.out⟩, ⟨by (with_reducible repeat (first | refine blk_drewN ?_ _ | refine blk_drew ?_ | refine blk_alloc ?_ _)); exact BK118.out⟩, ⟨by repeat (first | (with_reducible first | exact HB.out | apply below_alloc | apply pw_below_drewN | apply below_drew1 | refine below_set ?_ GE117.out | refine below_set ?_ GE118.out) | exact HB.out)⟩⟩
        · rw [if_neg c11] at H
          exact absurd H (by simp)
      · rw [if_neg c9] at H
        exact absurd H (by simp)
  case rest =>
    clear HC2
    try clear c1
    try clear c2
    try clear p2
    try clear c3
    try clear c6
    try clear c8
    try clear c8b0
    try clear c8b1
    try clear c9
    try clear c9b0
    try clear c9b1
    try clear c9b2
    try clear c11
    try clear c11b0
    try clear c11b1
    try clear c11b2
    try clear c12
    try clear hcz13_0
    try clear hcz13_1
    try clear hcz13_2
    try clear hcz13_3
    try clear hcz13_4
    try clear hcz13_5
    try clear hcz4_0
    try clear hcz4_1
    try clear hcz4_10
    try clear hcz4_2
    try clear hcz4_3
    try clear hcz4_4
    try clear hcz4_5
    try clear hcz4_6
    try clear hcz4_7
    try clear hcz4_8
    try clear hcz4_9
    try clear hcz7_0
    try clear hcz7_1
    try clear hcz7_2
    try clear hcz7_3
    try clear hcz7_4
    try clear hcz7_5
    try clear hfz13_0
    try clear hfz13_1
    try clear hfz13_2
    try clear hfz13_3
    try clear hfz13_4
    try clear hfz13_5
    try clear hfz4_0
    try clear hfz4_1
    try clear hfz4_10
    try clear hfz4_2
    try clear hfz4_3
    try clear hfz4_4
    try clear hfz4_5
    try clear hfz4_6
    try clear hfz4_7
    try clear hfz4_8
    try clear hfz4_9
    try clear hfz7_0
    try clear hfz7_1
    try clear hfz7_2
    try clear hfz7_3
    try clear hfz7_4
    try clear hfz7_5
    obtain ⟨kq, x4_1, rfl, HA, HJ1, BK117, BK118, HB⟩ := hcut
    cases kq with
    | zero => exact absurd HA.out (by simp [strataref17_result.j0])
    | succ kj1 =>
      have H := HA.out
      clear HA
      simp only [strataref17_result.j0] at H
      have HC15 := Aside0.mk H
      clear H
      have hnb16 := NB118_117.out
      have hnc16 := NB117_118.out
      have hcz17_0 : wc.cell? ⟨gb118, 0, none⟩ = some (.int .i64 a0_4) := (blk_cell BK118.out 0).trans rfl
      have hcz17_1 : wc.cell? ⟨gb118, 1, none⟩ = some (.slice A0_5 l0_5.length c0_5) := (blk_cell BK118.out 1).trans rfl
      have hcz17_2 : wc.cell? ⟨gb118, 2, none⟩ = some (.slice A0_6 l0_6.length c0_6) := (blk_cell BK118.out 2).trans rfl
      have hcz17_3 : wc.cell? ⟨gb118, 3, none⟩ = some (.int .i64 a0_7) := (blk_cell BK118.out 3).trans rfl
      have hcz17_4 : wc.cell? ⟨gb118, 4, none⟩ = some (.int .u64 a0_8) := (blk_cell BK118.out 4).trans rfl
      have hcz17_5 : wc.cell? ⟨gb118, 5, none⟩ = some (.int .i64 a0_9) := (blk_cell BK118.out 5).trans rfl
      have hfz17_0 := blk_frozen BK118.out 0
      have hfz17_1 := blk_frozen BK118.out 1
      have hfz17_2 := blk_frozen BK118.out 2
      have hfz17_3 := blk_frozen BK118.out 3
      have hfz17_4 := blk_frozen BK118.out 4
      have hfz17_5 := blk_frozen BK118.out 5
      go_upto_if 21 with (fail)
      go_cut [4] (fun v4 wc => ∃ (kq : Nat) (x4_14 : ByteArray), v4 = .string x4_14 ∧ Aside0 (strataref17_result.j1 kq x4_14 a0_4 l0_5 l0_6 a0_7 a0_8 a0_9 = some r) ∧ Aside0 (kq ≤ kj1) ∧ Aside0 (wc.heap[gb117]? = some (.cells #[.int .i64 a0_0, .int .i64 a0_1, .int .i64 a0_2, .int .i64 a0_3, .int .i64 a0_4, (.slice A0_5 l0_5.length c0_5), (.slice A0_6 l0_6.length c0_6), .int .i64 a0_7, .int .u64 a0_8, .int .i64 a0_9, (.slice A0_10 l0_10.length c0_10)] 36 (0, 0))) ∧ Aside0 (wc.heap[gb118]? = some (.cells #[.int .i64 a0_4, (.slice A0_5 l0_5.length c0_5), (.slice A0_6 l0_6.length c0_6), .int .i64 a0_7, .int .u64 a0_8, .int .i64 a0_9] 34 (0, 0))) ∧ Aside0 (Below w.heap.size w wc))
      case first =>
        have H := HC15.out
        clear HC15
        by_cases c18 : a0_8 = 0
        · rw [if_pos c18] at H
          have c18b0 : (a0_8 == 0) = true := beq_iff_eq.mpr c18
          have c18b1 : (a0_8 != 0) = false := bne_eq_false_iff_eq.mpr c18
          clear c18
          (first | rw [c18b0] | (simp only [i64_w, i32_w]; rw [c18b0]) | skip)
          have H' := Aside0.mk H
          clear H
          go_wp2
          go_meet
          case rel => exact ⟨_, (x4_1), (by first | rfl | (simp; done) | (simp [*]; done)), H', ⟨by have := HJ1.out; first | omega | exact Nat.le_refl _⟩, ⟨by (with_reducible repeat (first | refine blk_drewN ?_ _ | refine blk_drew ?_ | refine blk_alloc ?_ _)); exact BK117.out⟩, ⟨by (with_reducible repeat (first | refine blk_drewN ?_ _ | refine blk_drew ?_ | refine blk_alloc ?_ _)); exact BK118.out⟩, ⟨by repeat (first | (with_reducible first | exact HB.out | apply below_alloc | apply pw_below_drewN | apply below_drew1 | refine below_set ?_ GE117.out | refine below_set ?_ GE118.out) | exact HB.out)⟩⟩
        · rw [if_neg c18] at H
          have c18b0 : (a0_8 == 0) = false := beq_eq_false_iff_ne.mpr c18
          have c18b1 : (a0_8 != 0) = true := bne_iff_ne.mpr c18
          (first | rw [c18b0] | (simp only [i64_w, i32_w]; rw [c18b0]) | skip)
          by_cases c19 : x4_1.size + 7 ≤ 9223372036854775807
          · rw [if_pos c19] at H
            have c19b0 := eq_true c19
            have c19b1 : decide (x4_1.size + 7 ≤ 9223372036854775807) = true := decide_eq_true c19
            try have c19b2 : (9223372036854775807 < x4_1.size + 7) = False := eq_false (Nat.not_lt.2 c19)
            replace H := Option.bind_eq_some_iff.mp H
            obtain ⟨t120, A200, H⟩ := H
            replace H : (if (x4_1 ++ (⟨#[32, 115, 116, 97, 109, 112, 32]⟩ : ByteArray)).size + t120.size ≤ 9223372036854775807 then (strataref17_result.j1 kj1 ((x4_1 ++ (⟨#[32, 115, 116, 97, 109, 112, 32]⟩ : ByteArray)) ++ t120) a0_4 l0_5 l0_6 a0_7 a0_8 a0_9) else (none)) = some r := H
            have A20 := Aside0.mk A200
            clear A200
            by_cases c21 : (x4_1 ++ (⟨#[32, 115, 116, 97, 109, 112, 32]⟩ : ByteArray)).size + t120.size ≤ 9223372036854775807
            · rw [if_pos c21] at H
              have c21b0 := eq_true c21
              have c21b1 : decide ((x4_1 ++ (⟨#[32, 115, 116, 97, 109, 112, 32]⟩ : ByteArray)).size + t120.size ≤ 9223372036854775807) = true := decide_eq_true c21
              try have c21b2 : (9223372036854775807 < (x4_1 ++ (⟨#[32, 115, 116, 97, 109, 112, 32]⟩ : ByteArray)).size + t120.size) = False := eq_false (Nat.not_lt.2 c21)
              try (have c21b3 := c21b2; simp only [ByteArray.size_append, ByteArray.size_extract] at c21b3)
              try (have c21b4 := c21b2; simp only [ByteArray.size_append, ByteArray.size_extract, bsz, List.size_toArray, List.length_cons, List.length_nil, Nat.reduceAdd] at c21b4)
              have H' := Aside0.mk H
              clear H
              have hnb22 := NB118_117.out
              have hnc22 := NB117_118.out
              have hcz23_0 : wc.cell? ⟨gb118, 0, none⟩ = some (.int .i64 a0_4) := (blk_cell BK118.out 0).trans rfl
              have hcz23_1 : wc.cell? ⟨gb118, 1, none⟩ = some (.slice A0_5 l0_5.length c0_5) := (blk_cell BK118.out 1).trans rfl
              have hcz23_2 : wc.cell? ⟨gb118, 2, none⟩ = some (.slice A0_6 l0_6.length c0_6) := (blk_cell BK118.out 2).trans rfl
              have hcz23_3 : wc.cell? ⟨gb118, 3, none⟩ = some (.int .i64 a0_7) := (blk_cell BK118.out 3).trans rfl
              have hcz23_4 : wc.cell? ⟨gb118, 4, none⟩ = some (.int .u64 a0_8) := (blk_cell BK118.out 4).trans rfl
              have hcz23_5 : wc.cell? ⟨gb118, 5, none⟩ = some (.int .i64 a0_9) := (blk_cell BK118.out 5).trans rfl
              have hfz23_0 := blk_frozen BK118.out 0
              have hfz23_1 := blk_frozen BK118.out 1
              have hfz23_2 := blk_frozen BK118.out 2
              have hfz23_3 := blk_frozen BK118.out 3
              have hfz23_4 := blk_frozen BK118.out 4
              have hfz23_5 := blk_frozen BK118.out 5
              go_wp2_with (first | ((with_reducible refine gate_callee (f := 63) rfl ?_); refine goesL_ (some 26) rfl rfl Tryd.func63 (by kernel_rfl) rfl #[.int .u64 a0_8] rfl (by (try simp only [List.map_toArray, List.map_cons, List.map_nil]); first | done | rfl | (simp only [List.length_drop, List.length_take]; rfl)) ?_; (with_reducible refine (strataref17_stamp.calls kj1 a0_8 t120 _ A20.out).mono ?_); rintro e w24 ⟨rfl, hb⟩; refine ⟨_, rfl, ?_⟩; have n0_ := Aside0.mk (blk_below (g := gb117) (o := .cells #[.int .i64 a0_0, .int .i64 a0_1, .int .i64 a0_2, .int .i64 a0_3, .int .i64 a0_4, .slice A0_5 l0_5.length c0_5, .slice A0_6 l0_6.length c0_6, .int .i64 a0_7, .int .u64 a0_8, .int .i64 a0_9, .slice A0_10 l0_10.length c0_10] 36 (0, 0)) (by (with_reducible repeat (first | refine blk_drewN ?_ _ | refine blk_drew ?_ | refine blk_alloc ?_ _)); exact BK117.out) hb); have n1_ := Aside0.mk (blk_below (g := gb118) (o := .cells #[.int .i64 a0_4, .slice A0_5 l0_5.length c0_5, .slice A0_6 l0_6.length c0_6, .int .i64 a0_7, .int .u64 a0_8, .int .i64 a0_9] 34 (0, 0)) (by (with_reducible repeat (first | refine blk_drewN ?_ _ | refine blk_drew ?_ | refine blk_alloc ?_ _)); exact BK118.out) hb); have n2_ := Aside0.mk (below_step (by repeat (first | (with_reducible first | exact HB.out | apply below_alloc | apply pw_below_drewN | apply below_drew1 | refine below_set ?_ GE117.out | refine below_set ?_ GE118.out) | exact HB.out)) hb); clear BK117; clear BK118; clear HB; have BK117 := n0_; have BK118 := n1_; have HB := n2_; clear n0_ n1_ n2_; (try clear hb); (try clear hb2); (try clear hk); (try clear hi)))
              go_meet
              case rel => exact ⟨_, ((x4_1 ++ (⟨#[32, 115, 116, 97, 109, 112, 32]⟩ : ByteArray)) ++ t120), (by first | rfl | (simp; done) | (simp [*]; done)), H', ⟨by have := HJ1.out; first | omega | exact Nat.le_refl _⟩, ⟨by (with_reducible repeat (first | refine blk_drewN ?_ _ | refine blk_drew ?_ | refine blk_alloc ?_ _)); exact BK117.out⟩, ⟨by (with_reducible repeat (first | refine blk_drewN ?_ _ | refine blk_drew ?_ | refine blk_alloc ?_ _)); exact BK118.out⟩, ⟨by repeat (first | (with_reducible first | exact HB.out | apply below_alloc | apply pw_below_drewN | apply below_drew1 | refine below_set ?_ GE117.out | refine below_set ?_ GE118.out) | exact HB.out)⟩⟩
            · rw [if_neg c21] at H
              exact absurd H (by simp)
          · rw [if_neg c19] at H
            exact absurd H (by simp)
      case rest =>
        clear HC15
        try clear c1
        try clear c2
        try clear p2
        try clear c3
        try clear c6
        try clear c8
        try clear c8b0
        try clear c8b1
        try clear c9
        try clear c9b0
        try clear c9b1
        try clear c9b2
        try clear c11
        try clear c11b0
        try clear c11b1
        try clear c11b2
        try clear c12
        try clear c16
        try clear c18
        try clear c18b0
        try clear c18b1
        try clear c19
        try clear c19b0
        try clear c19b1
        try clear c19b2
        try clear c21
        try clear c21b0
        try clear c21b1
        try clear c21b2
        try clear c22
        try clear hcz13_0
        try clear hcz13_1
        try clear hcz13_2
        try clear hcz13_3
        try clear hcz13_4
        try clear hcz13_5
        try clear hcz17_0
        try clear hcz17_1
        try clear hcz17_2
        try clear hcz17_3
        try clear hcz17_4
        try clear hcz17_5
        try clear hcz23_0
        try clear hcz23_1
        try clear hcz23_2
        try clear hcz23_3
        try clear hcz23_4
        try clear hcz23_5
        try clear hcz4_0
        try clear hcz4_1
        try clear hcz4_10
        try clear hcz4_2
        try clear hcz4_3
        try clear hcz4_4
        try clear hcz4_5
        try clear hcz4_6
        try clear hcz4_7
        try clear hcz4_8
        try clear hcz4_9
        try clear hcz7_0
        try clear hcz7_1
        try clear hcz7_2
        try clear hcz7_3
        try clear hcz7_4
        try clear hcz7_5
        try clear hfz13_0
        try clear hfz13_1
        try clear hfz13_2
        try clear hfz13_3
        try clear hfz13_4
        try clear hfz13_5
        try clear hfz17_0
        try clear hfz17_1
        try clear hfz17_2
        try clear hfz17_3
        try clear hfz17_4
        try clear hfz17_5
        try clear hfz23_0
        try clear hfz23_1
        try clear hfz23_2
        try clear hfz23_3
        try clear hfz23_4
        try clear hfz23_5
        try clear hfz4_0
        try clear hfz4_1
        try clear hfz4_10
        try clear hfz4_2
        try clear hfz4_3
        try clear hfz4_4
        try clear hfz4_5
        try clear hfz4_6
        try clear hfz4_7
        try clear hfz4_8
        try clear hfz4_9
        try clear hfz7_0
        try clear hfz7_1
        try clear hfz7_2
        try clear hfz7_3
        try clear hfz7_4
        try clear hfz7_5
        try clear p2
        obtain ⟨kq, x4_14, rfl, HA, HJ14, BK117, BK118, HB⟩ := hcut
        cases kq with
        | zero => exact absurd HA.out (by simp [strataref17_result.j1])
        | succ kj14 =>
          have H := HA.out
          clear HA
          simp only [strataref17_result.j1] at H
          have HC25 := Aside0.mk H
          clear H
          have hnb26 := NB118_117.out
          have hnc26 := NB117_118.out
          have hcz27_0 : wc.cell? ⟨gb118, 0, none⟩ = some (.int .i64 a0_4) := (blk_cell BK118.out 0).trans rfl
          have hcz27_1 : wc.cell? ⟨gb118, 1, none⟩ = some (.slice A0_5 l0_5.length c0_5) := (blk_cell BK118.out 1).trans rfl
          have hcz27_2 : wc.cell? ⟨gb118, 2, none⟩ = some (.slice A0_6 l0_6.length c0_6) := (blk_cell BK118.out 2).trans rfl
          have hcz27_3 : wc.cell? ⟨gb118, 3, none⟩ = some (.int .i64 a0_7) := (blk_cell BK118.out 3).trans rfl
          have hcz27_4 : wc.cell? ⟨gb118, 4, none⟩ = some (.int .u64 a0_8) := (blk_cell BK118.out 4).trans rfl
          have hcz27_5 : wc.cell? ⟨gb118, 5, none⟩ = some (.int .i64 a0_9) := (blk_cell BK118.out 5).trans rfl
          have hfz27_0 := blk_frozen BK118.out 0
          have hfz27_1 := blk_frozen BK118.out 1
          have hfz27_2 := blk_frozen BK118.out 2
          have hfz27_3 := blk_frozen BK118.out 3
          have hfz27_4 := blk_frozen BK118.out 4
          have hfz27_5 := blk_frozen BK118.out 5
          go_upto_if 30 with (fail)
          go_cut [4] (fun v4 wc => ∃ (kq : Nat) (x4_24 : ByteArray), v4 = .string x4_24 ∧ Aside0 (strataref17_result.j2 kq x4_24 a0_4 l0_5 l0_6 a0_7 a0_8 a0_9 = some r) ∧ Aside0 (kq ≤ kj14) ∧ Aside0 (wc.heap[gb117]? = some (.cells #[.int .i64 a0_0, .int .i64 a0_1, .int .i64 a0_2, .int .i64 a0_3, .int .i64 a0_4, (.slice A0_5 l0_5.length c0_5), (.slice A0_6 l0_6.length c0_6), .int .i64 a0_7, .int .u64 a0_8, .int .i64 a0_9, (.slice A0_10 l0_10.length c0_10)] 36 (0, 0))) ∧ Aside0 (wc.heap[gb118]? = some (.cells #[.int .i64 a0_4, (.slice A0_5 l0_5.length c0_5), (.slice A0_6 l0_6.length c0_6), .int .i64 a0_7, .int .u64 a0_8, .int .i64 a0_9] 34 (0, 0))) ∧ Aside0 (Below w.heap.size w wc))
          case first =>
            have H := HC25.out
            clear HC25
            by_cases c28 : a0_9 = 1
            · rw [if_pos c28] at H
              have c28b0 : (a0_9 == 1) = true := beq_iff_eq.mpr c28
              have c28b1 : (a0_9 != 1) = false := bne_eq_false_iff_eq.mpr c28
              clear c28
              (first | rw [c28b0] | (simp only [i64_w, i32_w]; rw [c28b0]) | skip)
              by_cases c29 : x4_14.size + 7 ≤ 9223372036854775807
              · rw [if_pos c29] at H
                have c29b0 := eq_true c29
                have c29b1 : decide (x4_14.size + 7 ≤ 9223372036854775807) = true := decide_eq_true c29
                try have c29b2 : (9223372036854775807 < x4_14.size + 7) = False := eq_false (Nat.not_lt.2 c29)
                have H' := Aside0.mk H
                clear H
                go_wp2
                go_meet
                case rel => exact ⟨_, (x4_14 ++ (⟨#[32, 99, 111, 109, 109, 105, 116]⟩ : ByteArray)), (by first | rfl | (simp; done) | (simp [*]; done)), H', ⟨by have := HJ1.out; have := HJ14.out; first | omega | exact Nat.le_refl _⟩, ⟨by (with_reducible repeat (first | refine blk_drewN ?_ _ | refine blk_drew ?_ | refine blk_alloc ?_ _)); exact BK117.out⟩, ⟨by (with_reducible repeat (first | refine blk_drewN ?_ _ | refine blk_drew ?_ | refine blk_alloc ?_ _)); exact BK118.out⟩, ⟨by repeat (first | (with_reducible first | exact HB.out | apply below_alloc | apply pw_below_drewN | apply below_drew1 | refine below_set ?_ GE117.out | refine below_set ?_ GE118.out) | exact HB.out)⟩⟩
              · rw [if_neg c29] at H
                exact absurd H (by simp)
            · rw [if_neg c28] at H
              have c28b0 : (a0_9 == 1) = false := beq_eq_false_iff_ne.mpr c28
              have c28b1 : (a0_9 != 1) = true := bne_iff_ne.mpr c28
              (first | rw [c28b0] | (simp only [i64_w, i32_w]; rw [c28b0]) | skip)
              have H' := Aside0.mk H
              clear H
              go_wp2
              go_meet
              case rel => exact ⟨_, (x4_14), (by first | rfl | (simp; done) | (simp [*]; done)), H', ⟨by have := HJ1.out; have := HJ14.out; first | omega | exact Nat.le_refl _⟩, ⟨by (with_reducible repeat (first | refine blk_drewN ?_ _ | refine blk_drew ?_ | refine blk_alloc ?_ _)); exact BK117.out⟩, ⟨by (with_reducible repeat (first | refine blk_drewN ?_ _ | refine blk_drew ?_ | refine blk_alloc ?_ _)); exact BK118.out⟩, ⟨by repeat (first | (with_reducible first | exact HB.out | apply below_alloc | apply pw_below_drewN | apply below_drew1 | refine below_set ?_ GE117.out | refine below_set ?_ GE118.out) | exact HB.out)⟩⟩
          case rest =>
            clear HC25
            try clear c1
            try clear c2
            try clear p2
            try clear c3
            try clear c6
            try clear c8
            try clear c8b0
            try clear c8b1
            try clear c9
            try clear c9b0
            try clear c9b1
            try clear c9b2
            try clear c11
            try clear c11b0
            try clear c11b1
            try clear c11b2
            try clear c12
            try clear c16
            try clear c18
            try clear c18b0
            try clear c18b1
            try clear c19
            try clear c19b0
            try clear c19b1
            try clear c19b2
            try clear c21
            try clear c21b0
            try clear c21b1
            try clear c21b2
            try clear c22
            try clear c26
            try clear c28
            try clear c28b0
            try clear c28b1
            try clear c29
            try clear c29b0
            try clear c29b1
            try clear c29b2
            try clear hcz13_0
            try clear hcz13_1
            try clear hcz13_2
            try clear hcz13_3
            try clear hcz13_4
            try clear hcz13_5
            try clear hcz17_0
            try clear hcz17_1
            try clear hcz17_2
            try clear hcz17_3
            try clear hcz17_4
            try clear hcz17_5
            try clear hcz23_0
            try clear hcz23_1
            try clear hcz23_2
            try clear hcz23_3
            try clear hcz23_4
            try clear hcz23_5
            try clear hcz27_0
            try clear hcz27_1
            try clear hcz27_2
            try clear hcz27_3
            try clear hcz27_4
            try clear hcz27_5
            try clear hcz4_0
            try clear hcz4_1
            try clear hcz4_10
            try clear hcz4_2
            try clear hcz4_3
            try clear hcz4_4
            try clear hcz4_5
            try clear hcz4_6
            try clear hcz4_7
            try clear hcz4_8
            try clear hcz4_9
            try clear hcz7_0
            try clear hcz7_1
            try clear hcz7_2
            try clear hcz7_3
            try clear hcz7_4
            try clear hcz7_5
            try clear hfz13_0
            try clear hfz13_1
            try clear hfz13_2
            try clear hfz13_3
            try clear hfz13_4
            try clear hfz13_5
            try clear hfz17_0
            try clear hfz17_1
            try clear hfz17_2
            try clear hfz17_3
            try clear hfz17_4
            try clear hfz17_5
            try clear hfz23_0
            try clear hfz23_1
            try clear hfz23_2
            try clear hfz23_3
            try clear hfz23_4
            try clear hfz23_5
            try clear hfz27_0
            try clear hfz27_1
            try clear hfz27_2
            try clear hfz27_3
            try clear hfz27_4
            try clear hfz27_5
            try clear hfz4_0
            try clear hfz4_1
            try clear hfz4_10
            try clear hfz4_2
            try clear hfz4_3
            try clear hfz4_4
            try clear hfz4_5
            try clear hfz4_6
            try clear hfz4_7
            try clear hfz4_8
            try clear hfz4_9
            try clear hfz7_0
            try clear hfz7_1
            try clear hfz7_2
            try clear hfz7_3
            try clear hfz7_4
            try clear hfz7_5
            try clear p2
            obtain ⟨kq, x4_24, rfl, HA, HJ24, BK117, BK118, HB⟩ := hcut
            cases kq with
            | zero => exact absurd HA.out (by simp [strataref17_result.j2])
            | succ kj24 =>
              have H := HA.out
              clear HA
              simp only [strataref17_result.j2] at H
              have HC30 := Aside0.mk H
              clear H
              have hnb31 := NB118_117.out
              have hnc31 := NB117_118.out
              have hcz32_0 : wc.cell? ⟨gb118, 0, none⟩ = some (.int .i64 a0_4) := (blk_cell BK118.out 0).trans rfl
              have hcz32_1 : wc.cell? ⟨gb118, 1, none⟩ = some (.slice A0_5 l0_5.length c0_5) := (blk_cell BK118.out 1).trans rfl
              have hcz32_2 : wc.cell? ⟨gb118, 2, none⟩ = some (.slice A0_6 l0_6.length c0_6) := (blk_cell BK118.out 2).trans rfl
              have hcz32_3 : wc.cell? ⟨gb118, 3, none⟩ = some (.int .i64 a0_7) := (blk_cell BK118.out 3).trans rfl
              have hcz32_4 : wc.cell? ⟨gb118, 4, none⟩ = some (.int .u64 a0_8) := (blk_cell BK118.out 4).trans rfl
              have hcz32_5 : wc.cell? ⟨gb118, 5, none⟩ = some (.int .i64 a0_9) := (blk_cell BK118.out 5).trans rfl
              have hfz32_0 := blk_frozen BK118.out 0
              have hfz32_1 := blk_frozen BK118.out 1
              have hfz32_2 := blk_frozen BK118.out 2
              have hfz32_3 := blk_frozen BK118.out 3
              have hfz32_4 := blk_frozen BK118.out 4
              have hfz32_5 := blk_frozen BK118.out 5
              go_upto_if 35 with (fail)
              go_cut [4] (fun v4 wc => ∃ (kq : Nat) (x4_29 : ByteArray), v4 = .string x4_29 ∧ Aside0 (strataref17_result.j3 kq x4_29 a0_4 l0_5 l0_6 a0_7 a0_8 a0_9 = some r) ∧ Aside0 (kq ≤ kj24) ∧ Aside0 (wc.heap[gb117]? = some (.cells #[.int .i64 a0_0, .int .i64 a0_1, .int .i64 a0_2, .int .i64 a0_3, .int .i64 a0_4, (.slice A0_5 l0_5.length c0_5), (.slice A0_6 l0_6.length c0_6), .int .i64 a0_7, .int .u64 a0_8, .int .i64 a0_9, (.slice A0_10 l0_10.length c0_10)] 36 (0, 0))) ∧ Aside0 (wc.heap[gb118]? = some (.cells #[.int .i64 a0_4, (.slice A0_5 l0_5.length c0_5), (.slice A0_6 l0_6.length c0_6), .int .i64 a0_7, .int .u64 a0_8, .int .i64 a0_9] 34 (0, 0))) ∧ Aside0 (Below w.heap.size w wc))
              case first =>
                have H := HC30.out
                clear HC30
                by_cases c33 : a0_9 = 2
                · rw [if_pos c33] at H
                  have c33b0 : (a0_9 == 2) = true := beq_iff_eq.mpr c33
                  have c33b1 : (a0_9 != 2) = false := bne_eq_false_iff_eq.mpr c33
                  clear c33
                  (first | rw [c33b0] | (simp only [i64_w, i32_w]; rw [c33b0]) | skip)
                  by_cases c34 : x4_24.size + 6 ≤ 9223372036854775807
                  · rw [if_pos c34] at H
                    have c34b0 := eq_true c34
                    have c34b1 : decide (x4_24.size + 6 ≤ 9223372036854775807) = true := decide_eq_true c34
                    try have c34b2 : (9223372036854775807 < x4_24.size + 6) = False := eq_false (Nat.not_lt.2 c34)
                    have H' := Aside0.mk H
                    clear H
                    go_wp2
                    go_meet
                    case rel => exact ⟨_, (x4_24 ++ (⟨#[32, 97, 98, 111, 114, 116]⟩ : ByteArray)), (by first | rfl | (simp; done) | (simp [*]; done)), H', ⟨by have := HJ1.out; have := HJ14.out; have := HJ24.out; first | omega | exact Nat.le_refl _⟩, ⟨by (with_reducible repeat (first | refine blk_drewN ?_ _ | refine blk_drew ?_ | refine blk_alloc ?_ _)); exact BK117.out⟩, ⟨by (with_reducible repeat (first | refine blk_drewN ?_ _ | refine blk_drew ?_ | refine blk_alloc ?_ _)); exact BK118.out⟩, ⟨by repeat (first | (with_reducible first | exact HB.out | apply below_alloc | apply pw_below_drewN | apply below_drew1 | refine below_set ?_ GE117.out | refine below_set ?_ GE118.out) | exact HB.out)⟩⟩
                  · rw [if_neg c34] at H
                    exact absurd H (by simp)
                · rw [if_neg c33] at H
                  have c33b0 : (a0_9 == 2) = false := beq_eq_false_iff_ne.mpr c33
                  have c33b1 : (a0_9 != 2) = true := bne_iff_ne.mpr c33
                  (first | rw [c33b0] | (simp only [i64_w, i32_w]; rw [c33b0]) | skip)
                  have H' := Aside0.mk H
                  clear H
                  go_wp2
                  go_meet
                  case rel => exact ⟨_, (x4_24), (by first | rfl | (simp; done) | (simp [*]; done)), H', ⟨by have := HJ1.out; have := HJ14.out; have := HJ24.out; first | omega | exact Nat.le_refl _⟩, ⟨by (with_reducible repeat (first | refine blk_drewN ?_ _ | refine blk_drew ?_ | refine blk_alloc ?_ _)); exact BK117.out⟩, ⟨by (with_reducible repeat (first | refine blk_drewN ?_ _ | refine blk_drew ?_ | refine blk_alloc ?_ _)); exact BK118.out⟩, ⟨by repeat (first | (with_reducible first | exact HB.out | apply below_alloc | apply pw_below_drewN | apply below_drew1 | refine below_set ?_ GE117.out | refine below_set ?_ GE118.out) | exact HB.out)⟩⟩
              case rest =>
                clear HC30
                try clear c1
                try clear c2
                try clear p2
                try clear c3
                try clear c6
                try clear c8
                try clear c8b0
                try clear c8b1
                try clear c9
                try clear c9b0
                try clear c9b1
                try clear c9b2
                try clear c11
                try clear c11b0
                try clear c11b1
                try clear c11b2
                try clear c12
                try clear c16
                try clear c18
                try clear c18b0
                try clear c18b1
                try clear c19
                try clear c19b0
                try clear c19b1
                try clear c19b2
                try clear c21
                try clear c21b0
                try clear c21b1
                try clear c21b2
                try clear c22
                try clear c26
                try clear c28
                try clear c28b0
                try clear c28b1
                try clear c29
                try clear c29b0
                try clear c29b1
                try clear c29b2
                try clear c31
                try clear c33
                try clear c33b0
                try clear c33b1
                try clear c34
                try clear c34b0
                try clear c34b1
                try clear c34b2
                try clear hcz13_0
                try clear hcz13_1
                try clear hcz13_2
                try clear hcz13_3
                try clear hcz13_4
                try clear hcz13_5
                try clear hcz17_0
                try clear hcz17_1
                try clear hcz17_2
                try clear hcz17_3
                try clear hcz17_4
                try clear hcz17_5
                try clear hcz23_0
                try clear hcz23_1
                try clear hcz23_2
                try clear hcz23_3
                try clear hcz23_4
                try clear hcz23_5
                try clear hcz27_0
                try clear hcz27_1
                try clear hcz27_2
                try clear hcz27_3
                try clear hcz27_4
                try clear hcz27_5
                try clear hcz32_0
                try clear hcz32_1
                try clear hcz32_2
                try clear hcz32_3
                try clear hcz32_4
                try clear hcz32_5
                try clear hcz4_0
                try clear hcz4_1
                try clear hcz4_10
                try clear hcz4_2
                try clear hcz4_3
                try clear hcz4_4
                try clear hcz4_5
                try clear hcz4_6
                try clear hcz4_7
                try clear hcz4_8
                try clear hcz4_9
                try clear hcz7_0
                try clear hcz7_1
                try clear hcz7_2
                try clear hcz7_3
                try clear hcz7_4
                try clear hcz7_5
                try clear hfz13_0
                try clear hfz13_1
                try clear hfz13_2
                try clear hfz13_3
                try clear hfz13_4
                try clear hfz13_5
                try clear hfz17_0
                try clear hfz17_1
                try clear hfz17_2
                try clear hfz17_3
                try clear hfz17_4
                try clear hfz17_5
                try clear hfz23_0
                try clear hfz23_1
                try clear hfz23_2
                try clear hfz23_3
                try clear hfz23_4
                try clear hfz23_5
                try clear hfz27_0
                try clear hfz27_1
                try clear hfz27_2
                try clear hfz27_3
                try clear hfz27_4
                try clear hfz27_5
                try clear hfz32_0
                try clear hfz32_1
                try clear hfz32_2
                try clear hfz32_3
                try clear hfz32_4
                try clear hfz32_5
                try clear hfz4_0
                try clear hfz4_1
                try clear hfz4_10
                try clear hfz4_2
                try clear hfz4_3
                try clear hfz4_4
                try clear hfz4_5
                try clear hfz4_6
                try clear hfz4_7
                try clear hfz4_8
                try clear hfz4_9
                try clear hfz7_0
                try clear hfz7_1
                try clear hfz7_2
                try clear hfz7_3
                try clear hfz7_4
                try clear hfz7_5
                try clear p2
                obtain ⟨kq, x4_29, rfl, HA, HJ29, BK117, BK118, HB⟩ := hcut
                cases kq with
                | zero => exact absurd HA.out (by simp [strataref17_result.j3])
                | succ kj29 =>
                  have H := HA.out
                  clear HA
                  simp only [strataref17_result.j3] at H
                  by_cases c35 : x4_29.size + 1 ≤ 9223372036854775807
                  · rw [if_pos c35] at H
                    have c35b0 := eq_true c35
                    have c35b1 : decide (x4_29.size + 1 ≤ 9223372036854775807) = true := decide_eq_true c35
                    try have c35b2 : (9223372036854775807 < x4_29.size + 1) = False := eq_false (Nat.not_lt.2 c35)
                    by_cases c36 : (l0_5.length : Int) = 0
                    · rw [if_pos c36] at H
                      have c36b0 : ((l0_5.length : Int) == 0) = true := beq_iff_eq.mpr c36
                      have c36b1 : ((l0_5.length : Int) != 0) = false := bne_eq_false_iff_eq.mpr c36
                      clear c36
                      obtain rfl := Option.some.inj H
                      have hnb37 := NB118_117.out
                      have hnc37 := NB117_118.out
                      have hcz38_0 : wc.cell? ⟨gb118, 0, none⟩ = some (.int .i64 a0_4) := (blk_cell BK118.out 0).trans rfl
                      have hcz38_1 : wc.cell? ⟨gb118, 1, none⟩ = some (.slice A0_5 l0_5.length c0_5) := (blk_cell BK118.out 1).trans rfl
                      have hcz38_2 : wc.cell? ⟨gb118, 2, none⟩ = some (.slice A0_6 l0_6.length c0_6) := (blk_cell BK118.out 2).trans rfl
                      have hcz38_3 : wc.cell? ⟨gb118, 3, none⟩ = some (.int .i64 a0_7) := (blk_cell BK118.out 3).trans rfl
                      have hcz38_4 : wc.cell? ⟨gb118, 4, none⟩ = some (.int .u64 a0_8) := (blk_cell BK118.out 4).trans rfl
                      have hcz38_5 : wc.cell? ⟨gb118, 5, none⟩ = some (.int .i64 a0_9) := (blk_cell BK118.out 5).trans rfl
                      have hfz38_0 := blk_frozen BK118.out 0
                      have hfz38_1 := blk_frozen BK118.out 1
                      have hfz38_2 := blk_frozen BK118.out 2
                      have hfz38_3 := blk_frozen BK118.out 3
                      have hfz38_4 := blk_frozen BK118.out 4
                      have hfz38_5 := blk_frozen BK118.out 5
                      go_wp2
                      go_ret
                      exact ⟨by first | rfl | (simp [errW_none, errW_some] <;> rfl) | (simp [*, errW_none, errW_some] <;> rfl), by repeat (first | (with_reducible first | exact HB.out | apply below_alloc | apply pw_below_drewN | apply below_drew1 | refine below_set ?_ GE117.out | refine below_set ?_ GE118.out) | exact HB.out)⟩
                    · rw [if_neg c36] at H
                      have c36b0 : ((l0_5.length : Int) == 0) = false := beq_eq_false_iff_ne.mpr c36
                      have c36b1 : ((l0_5.length : Int) != 0) = true := bne_iff_ne.mpr c36
                      have c36b2 : ¬ (l0_5 = []) := fun h_ => c36 (by rw [h_]; rfl)
                      by_cases c39 : (x4_29 ++ (⟨#[10]⟩ : ByteArray)).size + 2 ≤ 9223372036854775807
                      · rw [if_pos c39] at H
                        have c39b0 := eq_true c39
                        have c39b1 : decide ((x4_29 ++ (⟨#[10]⟩ : ByteArray)).size + 2 ≤ 9223372036854775807) = true := decide_eq_true c39
                        try have c39b2 : (9223372036854775807 < (x4_29 ++ (⟨#[10]⟩ : ByteArray)).size + 2) = False := eq_false (Nat.not_lt.2 c39)
                        try (have c39b3 := c39b2; simp only [ByteArray.size_append, ByteArray.size_extract] at c39b3)
                        try (have c39b4 := c39b2; simp only [ByteArray.size_append, ByteArray.size_extract, bsz, List.size_toArray, List.length_cons, List.length_nil, Nat.reduceAdd] at c39b4)
                        have H' := Aside0.mk H
                        clear H
                        have hnb40 := NB118_117.out
                        have hnc40 := NB117_118.out
                        have hcz41_0 : wc.cell? ⟨gb118, 0, none⟩ = some (.int .i64 a0_4) := (blk_cell BK118.out 0).trans rfl
                        have hcz41_1 : wc.cell? ⟨gb118, 1, none⟩ = some (.slice A0_5 l0_5.length c0_5) := (blk_cell BK118.out 1).trans rfl
                        have hcz41_2 : wc.cell? ⟨gb118, 2, none⟩ = some (.slice A0_6 l0_6.length c0_6) := (blk_cell BK118.out 2).trans rfl
                        have hcz41_3 : wc.cell? ⟨gb118, 3, none⟩ = some (.int .i64 a0_7) := (blk_cell BK118.out 3).trans rfl
                        have hcz41_4 : wc.cell? ⟨gb118, 4, none⟩ = some (.int .u64 a0_8) := (blk_cell BK118.out 4).trans rfl
                        have hcz41_5 : wc.cell? ⟨gb118, 5, none⟩ = some (.int .i64 a0_9) := (blk_cell BK118.out 5).trans rfl
                        have hfz41_0 := blk_frozen BK118.out 0
                        have hfz41_1 := blk_frozen BK118.out 1
                        have hfz41_2 := blk_frozen BK118.out 2
                        have hfz41_3 := blk_frozen BK118.out 3
                        have hfz41_4 := blk_frozen BK118.out 4
                        have hfz41_5 := blk_frozen BK118.out 5
                        go_wp2
                        go_loopg [4, 5] kj29 (fun kq v4 v5 w' => ∃ (x4_5 : ByteArray) (x5_5 : Int), v4 = .string x4_5 ∧ v5 = .int .i64 x5_5 ∧ Aside0 (strataref17_result.l0 kq x4_5 x5_5 a0_4 l0_5 l0_6 a0_7 a0_8 a0_9 = some r) ∧ Aside0 (kq ≤ kj29) ∧ Aside0 (w'.heap[gb117]? = some (.cells #[.int .i64 a0_0, .int .i64 a0_1, .int .i64 a0_2, .int .i64 a0_3, .int .i64 a0_4, (.slice A0_5 l0_5.length c0_5), (.slice A0_6 l0_6.length c0_6), .int .i64 a0_7, .int .u64 a0_8, .int .i64 a0_9, (.slice A0_10 l0_10.length c0_10)] 36 (0, 0))) ∧ Aside0 (w'.heap[gb118]? = some (.cells #[.int .i64 a0_4, (.slice A0_5 l0_5.length c0_5), (.slice A0_6 l0_6.length c0_6), .int .i64 a0_7, .int .u64 a0_8, .int .i64 a0_9] 34 (0, 0))) ∧ Aside0 (Below w.heap.size w w'))
                        case atStart => exact ⟨((x4_29 ++ (⟨#[10]⟩ : ByteArray)) ++ (⟨#[124, 32]⟩ : ByteArray)), (0), (by first | rfl | (simp; done) | (simp [*]; done)), (by first | rfl | (simp; done) | (simp [*]; done)), H', ⟨Nat.le_refl _⟩, ⟨by (with_reducible repeat (first | refine blk_drewN ?_ _ | refine blk_drew ?_ | refine blk_alloc ?_ _)); exact BK117.out⟩, ⟨by (with_reducible repeat (first | refine blk_drewN ?_ _ | refine blk_drew ?_ | refine blk_alloc ?_ _)); exact BK118.out⟩, ⟨by repeat (first | (with_reducible first | exact HB.out | apply below_alloc | apply pw_below_drewN | apply below_drew1 | refine below_set ?_ GE117.out | refine below_set ?_ GE118.out) | exact HB.out)⟩⟩
                        case round =>
                          clear H'
                          try clear c1
                          try clear c2
                          try clear p2
                          try clear c3
                          try clear c4
                          try clear c6
                          try clear c8
                          try clear c8b0
                          try clear c8b1
                          try clear c9
                          try clear c9b0
                          try clear c9b1
                          try clear c9b2
                          try clear c11
                          try clear c11b0
                          try clear c11b1
                          try clear c11b2
                          try clear c12
                          try clear c16
                          try clear c18
                          try clear c18b0
                          try clear c18b1
                          try clear c19
                          try clear c19b0
                          try clear c19b1
                          try clear c19b2
                          try clear c21
                          try clear c21b0
                          try clear c21b1
                          try clear c21b2
                          try clear c22
                          try clear c26
                          try clear c28
                          try clear c28b0
                          try clear c28b1
                          try clear c29
                          try clear c29b0
                          try clear c29b1
                          try clear c29b2
                          try clear c31
                          try clear c33
                          try clear c33b0
                          try clear c33b1
                          try clear c34
                          try clear c34b0
                          try clear c34b1
                          try clear c34b2
                          try clear c35
                          try clear c35b0
                          try clear c35b1
                          try clear c35b2
                          try clear c36
                          try clear c36b0
                          try clear c36b1
                          try clear c36b2
                          try clear c37
                          try clear c39
                          try clear c39b0
                          try clear c39b1
                          try clear c39b2
                          try clear c40
                          try clear hcz13_0
                          try clear hcz13_1
                          try clear hcz13_2
                          try clear hcz13_3
                          try clear hcz13_4
                          try clear hcz13_5
                          try clear hcz17_0
                          try clear hcz17_1
                          try clear hcz17_2
                          try clear hcz17_3
                          try clear hcz17_4
                          try clear hcz17_5
                          try clear hcz23_0
                          try clear hcz23_1
                          try clear hcz23_2
                          try clear hcz23_3
                          try clear hcz23_4
                          try clear hcz23_5
                          try clear hcz27_0
                          try clear hcz27_1
                          try clear hcz27_2
                          try clear hcz27_3
                          try clear hcz27_4
                          try clear hcz27_5
                          try clear hcz32_0
                          try clear hcz32_1
                          try clear hcz32_2
                          try clear hcz32_3
                          try clear hcz32_4
                          try clear hcz32_5
                          try clear hcz38_0
                          try clear hcz38_1
                          try clear hcz38_2
                          try clear hcz38_3
                          try clear hcz38_4
                          try clear hcz38_5
                          try clear hcz41_0
                          try clear hcz41_1
                          try clear hcz41_2
                          try clear hcz41_3
                          try clear hcz41_4
                          try clear hcz41_5
                          try clear hcz4_0
                          try clear hcz4_1
                          try clear hcz4_10
                          try clear hcz4_2
                          try clear hcz4_3
                          try clear hcz4_4
                          try clear hcz4_5
                          try clear hcz4_6
                          try clear hcz4_7
                          try clear hcz4_8
                          try clear hcz4_9
                          try clear hcz7_0
                          try clear hcz7_1
                          try clear hcz7_2
                          try clear hcz7_3
                          try clear hcz7_4
                          try clear hcz7_5
                          try clear hfz13_0
                          try clear hfz13_1
                          try clear hfz13_2
                          try clear hfz13_3
                          try clear hfz13_4
                          try clear hfz13_5
                          try clear hfz17_0
                          try clear hfz17_1
                          try clear hfz17_2
                          try clear hfz17_3
                          try clear hfz17_4
                          try clear hfz17_5
                          try clear hfz23_0
                          try clear hfz23_1
                          try clear hfz23_2
                          try clear hfz23_3
                          try clear hfz23_4
                          try clear hfz23_5
                          try clear hfz27_0
                          try clear hfz27_1
                          try clear hfz27_2
                          try clear hfz27_3
                          try clear hfz27_4
                          try clear hfz27_5
                          try clear hfz32_0
                          try clear hfz32_1
                          try clear hfz32_2
                          try clear hfz32_3
                          try clear hfz32_4
                          try clear hfz32_5
                          try clear hfz38_0
                          try clear hfz38_1
                          try clear hfz38_2
                          try clear hfz38_3
                          try clear hfz38_4
                          try clear hfz38_5
                          try clear hfz41_0
                          try clear hfz41_1
                          try clear hfz41_2
                          try clear hfz41_3
                          try clear hfz41_4
                          try clear hfz41_5
                          try clear hfz4_0
                          try clear hfz4_1
                          try clear hfz4_10
                          try clear hfz4_2
                          try clear hfz4_3
                          try clear hfz4_4
                          try clear hfz4_5
                          try clear hfz4_6
                          try clear hfz4_7
                          try clear hfz4_8
                          try clear hfz4_9
                          try clear hfz7_0
                          try clear hfz7_1
                          try clear hfz7_2
                          try clear hfz7_3
                          try clear hfz7_4
                          try clear hfz7_5
                          try clear p2
                          obtain ⟨x4_5, x5_5, rfl, rfl, HA, HK5, BK117, BK118, HB⟩ := hrel
                          cases gk with
                          | zero => exact absurd HA.out (by simp [strataref17_result.l0])
                          | succ k5 =>
                            have H := HA.out
                            clear HA
                            simp only [strataref17_result.l0] at H
                            by_cases c42 : x5_5 < (l0_5.length : Int)
                            · rw [if_pos c42] at H
                              have c42b0 : decide (x5_5 < (l0_5.length : Int)) = true := decide_eq_true c42
                              clear c42
                              by_cases c43 : x5_5 > 0
                              · rw [if_pos c43] at H
                                have c43b0 : decide (0 < x5_5) = true := decide_eq_true c43
                                clear c43
                                by_cases c44 : x4_5.size + 2 ≤ 9223372036854775807
                                · rw [if_pos c44] at H
                                  have c44b0 := eq_true c44
                                  have c44b1 : decide (x4_5.size + 2 ≤ 9223372036854775807) = true := decide_eq_true c44
                                  try have c44b2 : (9223372036854775807 < x4_5.size + 2) = False := eq_false (Nat.not_lt.2 c44)
                                  by_cases c45 : 0 ≤ x5_5
                                  · rw [if_pos c45] at H
                                    have c45b0 : decide (0 ≤ x5_5) = true := decide_eq_true c45
                                    clear c45
                                    replace H := Option.bind_eq_some_iff.mp H
                                    obtain ⟨t122, A460, H⟩ := H
                                    replace H : (if (x4_5 ++ (⟨#[44, 32]⟩ : ByteArray)).size + t122.size ≤ 9223372036854775807 then (strataref17_result.l0 k5 ((x4_5 ++ (⟨#[44, 32]⟩ : ByteArray)) ++ t122) (wrap64 (x5_5 + 1)) a0_4 l0_5 l0_6 a0_7 a0_8 a0_9) else (none)) = some r := H
                                    have A46 := Aside0.mk A460
                                    clear A460
                                    by_cases c47 : (x4_5 ++ (⟨#[44, 32]⟩ : ByteArray)).size + t122.size ≤ 9223372036854775807
                                    · rw [if_pos c47] at H
                                      have c47b0 := eq_true c47
                                      have c47b1 : decide ((x4_5 ++ (⟨#[44, 32]⟩ : ByteArray)).size + t122.size ≤ 9223372036854775807) = true := decide_eq_true c47
                                      try have c47b2 : (9223372036854775807 < (x4_5 ++ (⟨#[44, 32]⟩ : ByteArray)).size + t122.size) = False := eq_false (Nat.not_lt.2 c47)
                                      try (have c47b3 := c47b2; simp only [ByteArray.size_append, ByteArray.size_extract] at c47b3)
                                      try (have c47b4 := c47b2; simp only [ByteArray.size_append, ByteArray.size_extract, bsz, List.size_toArray, List.length_cons, List.length_nil, Nat.reduceAdd] at c47b4)
                                      have H' := Aside0.mk H
                                      clear H
                                      have hnb48 := NB118_117.out
                                      have hnc48 := NB117_118.out
                                      have hcz49_0 : wr.cell? ⟨gb118, 0, none⟩ = some (.int .i64 a0_4) := (blk_cell BK118.out 0).trans rfl
                                      have hcz49_1 : wr.cell? ⟨gb118, 1, none⟩ = some (.slice A0_5 l0_5.length c0_5) := (blk_cell BK118.out 1).trans rfl
                                      have hcz49_2 : wr.cell? ⟨gb118, 2, none⟩ = some (.slice A0_6 l0_6.length c0_6) := (blk_cell BK118.out 2).trans rfl
                                      have hcz49_3 : wr.cell? ⟨gb118, 3, none⟩ = some (.int .i64 a0_7) := (blk_cell BK118.out 3).trans rfl
                                      have hcz49_4 : wr.cell? ⟨gb118, 4, none⟩ = some (.int .u64 a0_8) := (blk_cell BK118.out 4).trans rfl
                                      have hcz49_5 : wr.cell? ⟨gb118, 5, none⟩ = some (.int .i64 a0_9) := (blk_cell BK118.out 5).trans rfl
                                      have hfz49_0 := blk_frozen BK118.out 0
                                      have hfz49_1 := blk_frozen BK118.out 1
                                      have hfz49_2 := blk_frozen BK118.out 2
                                      have hfz49_3 := blk_frozen BK118.out 3
                                      have hfz49_4 := blk_frozen BK118.out 4
                                      have hfz49_5 := blk_frozen BK118.out 5
                                      have p121 : 0 ≤ (x5_5 : Int) := of_decide_eq_true (by first | (with_reducible assumption) | assumption)
                                      have q121 : x5_5 < (l0_5.length : Int) := of_decide_eq_true (by first | (with_reducible assumption) | assumption)
                                      obtain ⟨ad121, e121, hx121_0⟩ := Kd.at_string HR0_5.out x5_5 p121 q121
                                      cases e121
                                      replace hx121_0 := (HB.out.cell (World.block_lt_of_cell? w _ hx121_0)).trans hx121_0
                                      replace p121 := eq_true p121
                                      replace q121 := eq_true q121
                                      go_wp2_with (first | ((with_reducible refine gate_callee (f := 64) rfl ?_); refine goesL_ (some 64) rfl rfl Tryd.func64 (by kernel_rfl) rfl #[.string (rdOf ByteArray.empty l0_5 x5_5)] rfl (by (try simp only [List.map_toArray, List.map_cons, List.map_nil]); first | done | rfl | (simp only [List.length_drop, List.length_take]; rfl)) ?_; (with_reducible refine (strataref17_quoted.calls (rdOf ByteArray.empty l0_5 x5_5) t122 _ A46.out).mono ?_); rintro e w' ⟨rfl, ⟨nd, rfl⟩⟩; refine ⟨_, rfl, ?_⟩))
                                      go_roundg k5
                                      case measure => have := HJ1.out; have := HJ14.out; have := HJ24.out; have := HJ29.out; have := HK5.out; omega
                                      case rel => exact ⟨((x4_5 ++ (⟨#[44, 32]⟩ : ByteArray)) ++ t122), (wrap64 (x5_5 + 1)), (by first | rfl | (simp; done) | (simp [*]; done)), (by first | rfl | (simp; done) | (simp [*]; done)), H', ⟨by have := HJ1.out; have := HJ14.out; have := HJ24.out; have := HJ29.out; have := HK5.out; omega⟩, ⟨by (with_reducible repeat (first | refine blk_drewN ?_ _ | refine blk_drew ?_ | refine blk_alloc ?_ _)); exact BK117.out⟩, ⟨by (with_reducible repeat (first | refine blk_drewN ?_ _ | refine blk_drew ?_ | refine blk_alloc ?_ _)); exact BK118.out⟩, ⟨by repeat (first | (with_reducible first | exact HB.out | apply below_alloc | apply pw_below_drewN | apply below_drew1 | refine below_set ?_ GE117.out | refine below_set ?_ GE118.out) | exact HB.out)⟩⟩
                                    · rw [if_neg c47] at H
                                      exact absurd H (by simp)
                                  · rw [if_neg c45] at H
                                    exact absurd H (by simp)
                                · rw [if_neg c44] at H
                                  exact absurd H (by simp)
                              · rw [if_neg c43] at H
                                have c43b0 : decide (0 < x5_5) = false := decide_eq_false c43
                                clear c43
                                by_cases c50 : 0 ≤ x5_5
                                · rw [if_pos c50] at H
                                  have c50b0 : decide (0 ≤ x5_5) = true := decide_eq_true c50
                                  clear c50
                                  replace H := Option.bind_eq_some_iff.mp H
                                  obtain ⟨t124, A510, H⟩ := H
                                  replace H : (if x4_5.size + t124.size ≤ 9223372036854775807 then (strataref17_result.l0 k5 (x4_5 ++ t124) (wrap64 (x5_5 + 1)) a0_4 l0_5 l0_6 a0_7 a0_8 a0_9) else (none)) = some r := H
                                  have A51 := Aside0.mk A510
                                  clear A510
                                  by_cases c52 : x4_5.size + t124.size ≤ 9223372036854775807
                                  · rw [if_pos c52] at H
                                    have c52b0 := eq_true c52
                                    have c52b1 : decide (x4_5.size + t124.size ≤ 9223372036854775807) = true := decide_eq_true c52
                                    try have c52b2 : (9223372036854775807 < x4_5.size + t124.size) = False := eq_false (Nat.not_lt.2 c52)
                                    have H' := Aside0.mk H
                                    clear H
                                    have hnb53 := NB118_117.out
                                    have hnc53 := NB117_118.out
                                    have hcz54_0 : wr.cell? ⟨gb118, 0, none⟩ = some (.int .i64 a0_4) := (blk_cell BK118.out 0).trans rfl
                                    have hcz54_1 : wr.cell? ⟨gb118, 1, none⟩ = some (.slice A0_5 l0_5.length c0_5) := (blk_cell BK118.out 1).trans rfl
                                    have hcz54_2 : wr.cell? ⟨gb118, 2, none⟩ = some (.slice A0_6 l0_6.length c0_6) := (blk_cell BK118.out 2).trans rfl
                                    have hcz54_3 : wr.cell? ⟨gb118, 3, none⟩ = some (.int .i64 a0_7) := (blk_cell BK118.out 3).trans rfl
                                    have hcz54_4 : wr.cell? ⟨gb118, 4, none⟩ = some (.int .u64 a0_8) := (blk_cell BK118.out 4).trans rfl
                                    have hcz54_5 : wr.cell? ⟨gb118, 5, none⟩ = some (.int .i64 a0_9) := (blk_cell BK118.out 5).trans rfl
                                    have hfz54_0 := blk_frozen BK118.out 0
                                    have hfz54_1 := blk_frozen BK118.out 1
                                    have hfz54_2 := blk_frozen BK118.out 2
                                    have hfz54_3 := blk_frozen BK118.out 3
                                    have hfz54_4 := blk_frozen BK118.out 4
                                    have hfz54_5 := blk_frozen BK118.out 5
                                    have p123 : 0 ≤ (x5_5 : Int) := of_decide_eq_true (by first | (with_reducible assumption) | assumption)
                                    have q123 : x5_5 < (l0_5.length : Int) := of_decide_eq_true (by first | (with_reducible assumption) | assumption)
                                    obtain ⟨ad123, e123, hx123_0⟩ := Kd.at_string HR0_5.out x5_5 p123 q123
                                    cases e123
                                    replace hx123_0 := (HB.out.cell (World.block_lt_of_cell? w _ hx123_0)).trans hx123_0
                                    replace p123 := eq_true p123
                                    replace q123 := eq_true q123
                                    go_wp2_with (first | ((with_reducible refine gate_callee (f := 64) rfl ?_); refine goesL_ (some 64) rfl rfl Tryd.func64 (by kernel_rfl) rfl #[.string (rdOf ByteArray.empty l0_5 x5_5)] rfl (by (try simp only [List.map_toArray, List.map_cons, List.map_nil]); first | done | rfl | (simp only [List.length_drop, List.length_take]; rfl)) ?_; (with_reducible refine (strataref17_quoted.calls (rdOf ByteArray.empty l0_5 x5_5) t124 _ A51.out).mono ?_); rintro e w' ⟨rfl, ⟨nd, rfl⟩⟩; refine ⟨_, rfl, ?_⟩))
                                    go_roundg k5
                                    case measure => have := HJ1.out; have := HJ14.out; have := HJ24.out; have := HJ29.out; have := HK5.out; omega
                                    case rel => exact ⟨(x4_5 ++ t124), (wrap64 (x5_5 + 1)), (by first | rfl | (simp; done) | (simp [*]; done)), (by first | rfl | (simp; done) | (simp [*]; done)), H', ⟨by have := HJ1.out; have := HJ14.out; have := HJ24.out; have := HJ29.out; have := HK5.out; omega⟩, ⟨by (with_reducible repeat (first | refine blk_drewN ?_ _ | refine blk_drew ?_ | refine blk_alloc ?_ _)); exact BK117.out⟩, ⟨by (with_reducible repeat (first | refine blk_drewN ?_ _ | refine blk_drew ?_ | refine blk_alloc ?_ _)); exact BK118.out⟩, ⟨by repeat (first | (with_reducible first | exact HB.out | apply below_alloc | apply pw_below_drewN | apply below_drew1 | refine below_set ?_ GE117.out | refine below_set ?_ GE118.out) | exact HB.out)⟩⟩
                                  · rw [if_neg c52] at H
                                    exact absurd H (by simp)
                                · rw [if_neg c50] at H
                                  exact absurd H (by simp)
                            · rw [if_neg c42] at H
                              have c42b0 : decide (x5_5 < (l0_5.length : Int)) = false := decide_eq_false c42
                              clear c42
                              by_cases c55 : x4_5.size + 1 ≤ 9223372036854775807
                              · rw [if_pos c55] at H
                                have c55b0 := eq_true c55
                                have c55b1 : decide (x4_5.size + 1 ≤ 9223372036854775807) = true := decide_eq_true c55
                                try have c55b2 : (9223372036854775807 < x4_5.size + 1) = False := eq_false (Nat.not_lt.2 c55)
                                have H' := Aside0.mk H
                                clear H
                                have hnb56 := NB118_117.out
                                have hnc56 := NB117_118.out
                                have hcz57_0 : wr.cell? ⟨gb118, 0, none⟩ = some (.int .i64 a0_4) := (blk_cell BK118.out 0).trans rfl
                                have hcz57_1 : wr.cell? ⟨gb118, 1, none⟩ = some (.slice A0_5 l0_5.length c0_5) := (blk_cell BK118.out 1).trans rfl
                                have hcz57_2 : wr.cell? ⟨gb118, 2, none⟩ = some (.slice A0_6 l0_6.length c0_6) := (blk_cell BK118.out 2).trans rfl
                                have hcz57_3 : wr.cell? ⟨gb118, 3, none⟩ = some (.int .i64 a0_7) := (blk_cell BK118.out 3).trans rfl
                                have hcz57_4 : wr.cell? ⟨gb118, 4, none⟩ = some (.int .u64 a0_8) := (blk_cell BK118.out 4).trans rfl
                                have hcz57_5 : wr.cell? ⟨gb118, 5, none⟩ = some (.int .i64 a0_9) := (blk_cell BK118.out 5).trans rfl
                                have hfz57_0 := blk_frozen BK118.out 0
                                have hfz57_1 := blk_frozen BK118.out 1
                                have hfz57_2 := blk_frozen BK118.out 2
                                have hfz57_3 := blk_frozen BK118.out 3
                                have hfz57_4 := blk_frozen BK118.out 4
                                have hfz57_5 := blk_frozen BK118.out 5
                                go_wp2
                                go_loopg [4, 6] k5 (fun kq v4 v6 w' => ∃ (x4_6 : ByteArray) (x6_6 : Int), v4 = .string x4_6 ∧ v6 = .int .i64 x6_6 ∧ Aside0 (strataref17_result.l1 kq x4_6 x6_6 a0_4 l0_5 l0_6 a0_7 a0_8 a0_9 = some r) ∧ Aside0 (kq ≤ k5) ∧ Aside0 (w'.heap[gb117]? = some (.cells #[.int .i64 a0_0, .int .i64 a0_1, .int .i64 a0_2, .int .i64 a0_3, .int .i64 a0_4, (.slice A0_5 l0_5.length c0_5), (.slice A0_6 l0_6.length c0_6), .int .i64 a0_7, .int .u64 a0_8, .int .i64 a0_9, (.slice A0_10 l0_10.length c0_10)] 36 (0, 0))) ∧ Aside0 (w'.heap[gb118]? = some (.cells #[.int .i64 a0_4, (.slice A0_5 l0_5.length c0_5), (.slice A0_6 l0_6.length c0_6), .int .i64 a0_7, .int .u64 a0_8, .int .i64 a0_9] 34 (0, 0))) ∧ Aside0 (Below w.heap.size w w'))
                                case atStart => exact ⟨(x4_5 ++ (⟨#[10]⟩ : ByteArray)), (0), (by first | rfl | (simp; done) | (simp [*]; done)), (by first | rfl | (simp; done) | (simp [*]; done)), H', ⟨Nat.le_refl _⟩, ⟨by (with_reducible repeat (first | refine blk_drewN ?_ _ | refine blk_drew ?_ | refine blk_alloc ?_ _)); exact BK117.out⟩, ⟨by (with_reducible repeat (first | refine blk_drewN ?_ _ | refine blk_drew ?_ | refine blk_alloc ?_ _)); exact BK118.out⟩, ⟨by repeat (first | (with_reducible first | exact HB.out | apply below_alloc | apply pw_below_drewN | apply below_drew1 | refine below_set ?_ GE117.out | refine below_set ?_ GE118.out) | exact HB.out)⟩⟩
                                case round =>
                                  clear H'
                                  try clear c1
                                  try clear p1
                                  try clear q1
                                  try clear hx1
                                  try clear c2
                                  try clear p2
                                  try clear c3
                                  try clear c4
                                  try clear c5
                                  try clear c6
                                  try clear p6
                                  try clear c8
                                  try clear c8b0
                                  try clear c8b1
                                  try clear c9
                                  try clear c9b0
                                  try clear c9b1
                                  try clear c9b2
                                  try clear c11
                                  try clear c11b0
                                  try clear c11b1
                                  try clear c11b2
                                  try clear c12
                                  try clear p12
                                  try clear q12
                                  try clear hx12
                                  try clear c16
                                  try clear c18
                                  try clear c18b0
                                  try clear c18b1
                                  try clear c19
                                  try clear c19b0
                                  try clear c19b1
                                  try clear c19b2
                                  try clear c21
                                  try clear c21b0
                                  try clear c21b1
                                  try clear c21b2
                                  try clear c22
                                  try clear c26
                                  try clear c28
                                  try clear c28b0
                                  try clear c28b1
                                  try clear c29
                                  try clear c29b0
                                  try clear c29b1
                                  try clear c29b2
                                  try clear c31
                                  try clear c33
                                  try clear c33b0
                                  try clear c33b1
                                  try clear c34
                                  try clear c34b0
                                  try clear c34b1
                                  try clear c34b2
                                  try clear c35
                                  try clear c35b0
                                  try clear c35b1
                                  try clear c35b2
                                  try clear c36
                                  try clear c36b0
                                  try clear c36b1
                                  try clear c36b2
                                  try clear c37
                                  try clear c39
                                  try clear c39b0
                                  try clear c39b1
                                  try clear c39b2
                                  try clear c40
                                  try clear c42
                                  try clear c42b0
                                  try clear c43
                                  try clear c43b0
                                  try clear c44
                                  try clear c44b0
                                  try clear c44b1
                                  try clear c44b2
                                  try clear c45
                                  try clear c45b0
                                  try clear c47
                                  try clear c47b0
                                  try clear c47b1
                                  try clear c47b2
                                  try clear c48
                                  try clear c50
                                  try clear c50b0
                                  try clear c52
                                  try clear c52b0
                                  try clear c52b1
                                  try clear c52b2
                                  try clear c53
                                  try clear c55
                                  try clear c55b0
                                  try clear c55b1
                                  try clear c55b2
                                  try clear c56
                                  try clear hcz13_0
                                  try clear hcz13_1
                                  try clear hcz13_2
                                  try clear hcz13_3
                                  try clear hcz13_4
                                  try clear hcz13_5
                                  try clear hcz17_0
                                  try clear hcz17_1
                                  try clear hcz17_2
                                  try clear hcz17_3
                                  try clear hcz17_4
                                  try clear hcz17_5
                                  try clear hcz23_0
                                  try clear hcz23_1
                                  try clear hcz23_2
                                  try clear hcz23_3
                                  try clear hcz23_4
                                  try clear hcz23_5
                                  try clear hcz27_0
                                  try clear hcz27_1
                                  try clear hcz27_2
                                  try clear hcz27_3
                                  try clear hcz27_4
                                  try clear hcz27_5
                                  try clear hcz32_0
                                  try clear hcz32_1
                                  try clear hcz32_2
                                  try clear hcz32_3
                                  try clear hcz32_4
                                  try clear hcz32_5
                                  try clear hcz38_0
                                  try clear hcz38_1
                                  try clear hcz38_2
                                  try clear hcz38_3
                                  try clear hcz38_4
                                  try clear hcz38_5
                                  try clear hcz41_0
                                  try clear hcz41_1
                                  try clear hcz41_2
                                  try clear hcz41_3
                                  try clear hcz41_4
                                  try clear hcz41_5
                                  try clear hcz49_0
                                  try clear hcz49_1
                                  try clear hcz49_2
                                  try clear hcz49_3
                                  try clear hcz49_4
                                  try clear hcz49_5
                                  try clear hcz4_0
                                  try clear hcz4_1
                                  try clear hcz4_10
                                  try clear hcz4_2
                                  try clear hcz4_3
                                  try clear hcz4_4
                                  try clear hcz4_5
                                  try clear hcz4_6
                                  try clear hcz4_7
                                  try clear hcz4_8
                                  try clear hcz4_9
                                  try clear hcz54_0
                                  try clear hcz54_1
                                  try clear hcz54_2
                                  try clear hcz54_3
                                  try clear hcz54_4
                                  try clear hcz54_5
                                  try clear hcz57_0
                                  try clear hcz57_1
                                  try clear hcz57_2
                                  try clear hcz57_3
                                  try clear hcz57_4
                                  try clear hcz57_5
                                  try clear hcz7_0
                                  try clear hcz7_1
                                  try clear hcz7_2
                                  try clear hcz7_3
                                  try clear hcz7_4
                                  try clear hcz7_5
                                  try clear hfz13_0
                                  try clear hfz13_1
                                  try clear hfz13_2
                                  try clear hfz13_3
                                  try clear hfz13_4
                                  try clear hfz13_5
                                  try clear hfz17_0
                                  try clear hfz17_1
                                  try clear hfz17_2
                                  try clear hfz17_3
                                  try clear hfz17_4
                                  try clear hfz17_5
                                  try clear hfz23_0
                                  try clear hfz23_1
                                  try clear hfz23_2
                                  try clear hfz23_3
                                  try clear hfz23_4
                                  try clear hfz23_5
                                  try clear hfz27_0
                                  try clear hfz27_1
                                  try clear hfz27_2
                                  try clear hfz27_3
                                  try clear hfz27_4
                                  try clear hfz27_5
                                  try clear hfz32_0
                                  try clear hfz32_1
                                  try clear hfz32_2
                                  try clear hfz32_3
                                  try clear hfz32_4
                                  try clear hfz32_5
                                  try clear hfz38_0
                                  try clear hfz38_1
                                  try clear hfz38_2
                                  try clear hfz38_3
                                  try clear hfz38_4
                                  try clear hfz38_5
                                  try clear hfz41_0
                                  try clear hfz41_1
                                  try clear hfz41_2
                                  try clear hfz41_3
                                  try clear hfz41_4
                                  try clear hfz41_5
                                  try clear hfz49_0
                                  try clear hfz49_1
                                  try clear hfz49_2
                                  try clear hfz49_3
                                  try clear hfz49_4
                                  try clear hfz49_5
                                  try clear hfz4_0
                                  try clear hfz4_1
                                  try clear hfz4_10
                                  try clear hfz4_2
                                  try clear hfz4_3
                                  try clear hfz4_4
                                  try clear hfz4_5
                                  try clear hfz4_6
                                  try clear hfz4_7
                                  try clear hfz4_8
                                  try clear hfz4_9
                                  try clear hfz54_0
                                  try clear hfz54_1
                                  try clear hfz54_2
                                  try clear hfz54_3
                                  try clear hfz54_4
                                  try clear hfz54_5
                                  try clear hfz57_0
                                  try clear hfz57_1
                                  try clear hfz57_2
                                  try clear hfz57_3
                                  try clear hfz57_4
                                  try clear hfz57_5
                                  try clear hfz7_0
                                  try clear hfz7_1
                                  try clear hfz7_2
                                  try clear hfz7_3
                                  try clear hfz7_4
                                  try clear hfz7_5
                                  try clear hx121_0
                                  try clear hx123_0
                                  try clear p121
                                  try clear p123
                                  try clear p2
                                  try clear q121
                                  try clear q123
                                  obtain ⟨x4_6, x6_6, rfl, rfl, HA, HK6, BK117, BK118, HB⟩ := hrel
                                  cases gk with
                                  | zero => exact absurd HA.out (by simp [strataref17_result.l1])
                                  | succ k6 =>
                                    have H := HA.out
                                    clear HA
                                    simp only [strataref17_result.l1] at H
                                    by_cases c58 : x6_6 < (l0_6.length : Int)
                                    · rw [if_pos c58] at H
                                      have c58b0 : decide (x6_6 < (l0_6.length : Int)) = true := decide_eq_true c58
                                      clear c58
                                      by_cases c59 : x4_6.size + 2 ≤ 9223372036854775807
                                      · rw [if_pos c59] at H
                                        have c59b0 := eq_true c59
                                        have c59b1 : decide (x4_6.size + 2 ≤ 9223372036854775807) = true := decide_eq_true c59
                                        try have c59b2 : (9223372036854775807 < x4_6.size + 2) = False := eq_false (Nat.not_lt.2 c59)
                                        have H' := Aside0.mk H
                                        clear H
                                        have hnb60 := NB118_117.out
                                        have hnc60 := NB117_118.out
                                        have hcz61_0 : wr.cell? ⟨gb118, 0, none⟩ = some (.int .i64 a0_4) := (blk_cell BK118.out 0).trans rfl
                                        have hcz61_1 : wr.cell? ⟨gb118, 1, none⟩ = some (.slice A0_5 l0_5.length c0_5) := (blk_cell BK118.out 1).trans rfl
                                        have hcz61_2 : wr.cell? ⟨gb118, 2, none⟩ = some (.slice A0_6 l0_6.length c0_6) := (blk_cell BK118.out 2).trans rfl
                                        have hcz61_3 : wr.cell? ⟨gb118, 3, none⟩ = some (.int .i64 a0_7) := (blk_cell BK118.out 3).trans rfl
                                        have hcz61_4 : wr.cell? ⟨gb118, 4, none⟩ = some (.int .u64 a0_8) := (blk_cell BK118.out 4).trans rfl
                                        have hcz61_5 : wr.cell? ⟨gb118, 5, none⟩ = some (.int .i64 a0_9) := (blk_cell BK118.out 5).trans rfl
                                        have hfz61_0 := blk_frozen BK118.out 0
                                        have hfz61_1 := blk_frozen BK118.out 1
                                        have hfz61_2 := blk_frozen BK118.out 2
                                        have hfz61_3 := blk_frozen BK118.out 3
                                        have hfz61_4 := blk_frozen BK118.out 4
                                        have hfz61_5 := blk_frozen BK118.out 5
                                        go_wp2
                                        go_loopg [4, 7] k6 (fun kq v4 v7 w' => ∃ (x4_7 : ByteArray) (x7_7 : Int), v4 = .string x4_7 ∧ v7 = .int .i64 x7_7 ∧ Aside0 (strataref17_result.l2 kq x4_7 x6_6 x7_7 a0_4 l0_5 l0_6 a0_7 a0_8 a0_9 = some r) ∧ Aside0 (kq ≤ k6) ∧ Aside0 (w'.heap[gb117]? = some (.cells #[.int .i64 a0_0, .int .i64 a0_1, .int .i64 a0_2, .int .i64 a0_3, .int .i64 a0_4, (.slice A0_5 l0_5.length c0_5), (.slice A0_6 l0_6.length c0_6), .int .i64 a0_7, .int .u64 a0_8, .int .i64 a0_9, (.slice A0_10 l0_10.length c0_10)] 36 (0, 0))) ∧ Aside0 (w'.heap[gb118]? = some (.cells #[.int .i64 a0_4, (.slice A0_5 l0_5.length c0_5), (.slice A0_6 l0_6.length c0_6), .int .i64 a0_7, .int .u64 a0_8, .int .i64 a0_9] 34 (0, 0))) ∧ Aside0 (Below w.heap.size w w'))
                                        case atStart => exact ⟨(x4_6 ++ (⟨#[32, 32]⟩ : ByteArray)), (0), (by first | rfl | (simp; done) | (simp [*]; done)), (by first | rfl | (simp; done) | (simp [*]; done)), H', ⟨Nat.le_refl _⟩, ⟨by (with_reducible repeat (first | refine blk_drewN ?_ _ | refine blk_drew ?_ | refine blk_alloc ?_ _)); exact BK117.out⟩, ⟨by (with_reducible repeat (first | refine blk_drewN ?_ _ | refine blk_drew ?_ | refine blk_alloc ?_ _)); exact BK118.out⟩, ⟨by repeat (first | (with_reducible first | exact HB.out | apply below_alloc | apply pw_below_drewN | apply below_drew1 | refine below_set ?_ GE117.out | refine below_set ?_ GE118.out) | exact HB.out)⟩⟩
                                        case round =>
                                          clear H'
                                          try clear c1
                                          try clear p1
                                          try clear q1
                                          try clear hx1
                                          try clear c2
                                          try clear p2
                                          try clear c3
                                          try clear c4
                                          try clear c5
                                          try clear c6
                                          try clear p6
                                          try clear c8
                                          try clear c8b0
                                          try clear c8b1
                                          try clear c9
                                          try clear c9b0
                                          try clear c9b1
                                          try clear c9b2
                                          try clear c11
                                          try clear c11b0
                                          try clear c11b1
                                          try clear c11b2
                                          try clear c12
                                          try clear p12
                                          try clear q12
                                          try clear hx12
                                          try clear c16
                                          try clear c18
                                          try clear c18b0
                                          try clear c18b1
                                          try clear c19
                                          try clear c19b0
                                          try clear c19b1
                                          try clear c19b2
                                          try clear c21
                                          try clear c21b0
                                          try clear c21b1
                                          try clear c21b2
                                          try clear c22
                                          try clear c26
                                          try clear c28
                                          try clear c28b0
                                          try clear c28b1
                                          try clear c29
                                          try clear c29b0
                                          try clear c29b1
                                          try clear c29b2
                                          try clear c31
                                          try clear c33
                                          try clear c33b0
                                          try clear c33b1
                                          try clear c34
                                          try clear c34b0
                                          try clear c34b1
                                          try clear c34b2
                                          try clear c35
                                          try clear c35b0
                                          try clear c35b1
                                          try clear c35b2
                                          try clear c36
                                          try clear c36b0
                                          try clear c36b1
                                          try clear c36b2
                                          try clear c37
                                          try clear c39
                                          try clear c39b0
                                          try clear c39b1
                                          try clear c39b2
                                          try clear c40
                                          try clear c42
                                          try clear c42b0
                                          try clear c43
                                          try clear c43b0
                                          try clear c44
                                          try clear c44b0
                                          try clear c44b1
                                          try clear c44b2
                                          try clear c45
                                          try clear c45b0
                                          try clear c47
                                          try clear c47b0
                                          try clear c47b1
                                          try clear c47b2
                                          try clear c48
                                          try clear c50
                                          try clear c50b0
                                          try clear c52
                                          try clear c52b0
                                          try clear c52b1
                                          try clear c52b2
                                          try clear c53
                                          try clear c55
                                          try clear c55b0
                                          try clear c55b1
                                          try clear c55b2
                                          try clear c56
                                          try clear c58
                                          try clear c58b0
                                          try clear c59
                                          try clear c59b0
                                          try clear c59b1
                                          try clear c59b2
                                          try clear c60
                                          try clear hcz13_0
                                          try clear hcz13_1
                                          try clear hcz13_2
                                          try clear hcz13_3
                                          try clear hcz13_4
                                          try clear hcz13_5
                                          try clear hcz17_0
                                          try clear hcz17_1
                                          try clear hcz17_2
                                          try clear hcz17_3
                                          try clear hcz17_4
                                          try clear hcz17_5
                                          try clear hcz23_0
                                          try clear hcz23_1
                                          try clear hcz23_2
                                          try clear hcz23_3
                                          try clear hcz23_4
                                          try clear hcz23_5
                                          try clear hcz27_0
                                          try clear hcz27_1
                                          try clear hcz27_2
                                          try clear hcz27_3
                                          try clear hcz27_4
                                          try clear hcz27_5
                                          try clear hcz32_0
                                          try clear hcz32_1
                                          try clear hcz32_2
                                          try clear hcz32_3
                                          try clear hcz32_4
                                          try clear hcz32_5
                                          try clear hcz38_0
                                          try clear hcz38_1
                                          try clear hcz38_2
                                          try clear hcz38_3
                                          try clear hcz38_4
                                          try clear hcz38_5
                                          try clear hcz41_0
                                          try clear hcz41_1
                                          try clear hcz41_2
                                          try clear hcz41_3
                                          try clear hcz41_4
                                          try clear hcz41_5
                                          try clear hcz49_0
                                          try clear hcz49_1
                                          try clear hcz49_2
                                          try clear hcz49_3
                                          try clear hcz49_4
                                          try clear hcz49_5
                                          try clear hcz4_0
                                          try clear hcz4_1
                                          try clear hcz4_10
                                          try clear hcz4_2
                                          try clear hcz4_3
                                          try clear hcz4_4
                                          try clear hcz4_5
                                          try clear hcz4_6
                                          try clear hcz4_7
                                          try clear hcz4_8
                                          try clear hcz4_9
                                          try clear hcz54_0
                                          try clear hcz54_1
                                          try clear hcz54_2
                                          try clear hcz54_3
                                          try clear hcz54_4
                                          try clear hcz54_5
                                          try clear hcz57_0
                                          try clear hcz57_1
                                          try clear hcz57_2
                                          try clear hcz57_3
                                          try clear hcz57_4
                                          try clear hcz57_5
                                          try clear hcz61_0
                                          try clear hcz61_1
                                          try clear hcz61_2
                                          try clear hcz61_3
                                          try clear hcz61_4
                                          try clear hcz61_5
                                          try clear hcz7_0
                                          try clear hcz7_1
                                          try clear hcz7_2
                                          try clear hcz7_3
                                          try clear hcz7_4
                                          try clear hcz7_5
                                          try clear hfz13_0
                                          try clear hfz13_1
                                          try clear hfz13_2
                                          try clear hfz13_3
                                          try clear hfz13_4
                                          try clear hfz13_5
                                          try clear hfz17_0
                                          try clear hfz17_1
                                          try clear hfz17_2
                                          try clear hfz17_3
                                          try clear hfz17_4
                                          try clear hfz17_5
                                          try clear hfz23_0
                                          try clear hfz23_1
                                          try clear hfz23_2
                                          try clear hfz23_3
                                          try clear hfz23_4
                                          try clear hfz23_5
                                          try clear hfz27_0
                                          try clear hfz27_1
                                          try clear hfz27_2
                                          try clear hfz27_3
                                          try clear hfz27_4
                                          try clear hfz27_5
                                          try clear hfz32_0
                                          try clear hfz32_1
                                          try clear hfz32_2
                                          try clear hfz32_3
                                          try clear hfz32_4
                                          try clear hfz32_5
                                          try clear hfz38_0
                                          try clear hfz38_1
                                          try clear hfz38_2
                                          try clear hfz38_3
                                          try clear hfz38_4
                                          try clear hfz38_5
                                          try clear hfz41_0
                                          try clear hfz41_1
                                          try clear hfz41_2
                                          try clear hfz41_3
                                          try clear hfz41_4
                                          try clear hfz41_5
                                          try clear hfz49_0
                                          try clear hfz49_1
                                          try clear hfz49_2
                                          try clear hfz49_3
                                          try clear hfz49_4
                                          try clear hfz49_5
                                          try clear hfz4_0
                                          try clear hfz4_1
                                          try clear hfz4_10
                                          try clear hfz4_2
                                          try clear hfz4_3
                                          try clear hfz4_4
                                          try clear hfz4_5
                                          try clear hfz4_6
                                          try clear hfz4_7
                                          try clear hfz4_8
                                          try clear hfz4_9
                                          try clear hfz54_0
                                          try clear hfz54_1
                                          try clear hfz54_2
                                          try clear hfz54_3
                                          try clear hfz54_4
                                          try clear hfz54_5
                                          try clear hfz57_0
                                          try clear hfz57_1
                                          try clear hfz57_2
                                          try clear hfz57_3
                                          try clear hfz57_4
                                          try clear hfz57_5
                                          try clear hfz61_0
                                          try clear hfz61_1
                                          try clear hfz61_2
                                          try clear hfz61_3
                                          try clear hfz61_4
                                          try clear hfz61_5
                                          try clear hfz7_0
                                          try clear hfz7_1
                                          try clear hfz7_2
                                          try clear hfz7_3
                                          try clear hfz7_4
                                          try clear hfz7_5
                                          try clear hx121_0
                                          try clear hx123_0
                                          try clear p1
                                          try clear p12
                                          try clear p121
                                          try clear p123
                                          try clear p2
                                          try clear p6
                                          try clear q1
                                          try clear q12
                                          try clear q121
                                          try clear q123
                                          obtain ⟨x4_7, x7_7, rfl, rfl, HA, HK7, BK117, BK118, HB⟩ := hrel
                                          cases gk with
                                          | zero => exact absurd HA.out (by simp [strataref17_result.l2])
                                          | succ k7 =>
                                            have H := HA.out
                                            clear HA
                                            simp only [strataref17_result.l2] at H
                                            by_cases c62 : 0 ≤ x6_6
                                            · rw [if_pos c62] at H
                                              have c62b0 : decide (0 ≤ x6_6) = true := decide_eq_true c62
                                              clear c62
                                              by_cases c63 : x6_6 < (l0_6.length : Int)
                                              · rw [if_pos c63] at H
                                                have c63b0 : decide (x6_6 < (l0_6.length : Int)) = true := decide_eq_true c63
                                                clear c63
                                                by_cases c64 : x7_7 < ((rd_L4 l0_6 x6_6).length : Int)
                                                · rw [if_pos c64] at H
                                                  have c64b0 : decide (x7_7 < ((rd_L4 l0_6 x6_6).length : Int)) = true := decide_eq_true c64
                                                  clear c64
                                                  by_cases c65 : x7_7 > 0
                                                  · rw [if_pos c65] at H
                                                    have c65b0 : decide (0 < x7_7) = true := decide_eq_true c65
                                                    clear c65
                                                    by_cases c66 : x4_7.size + 2 ≤ 9223372036854775807
                                                    · rw [if_pos c66] at H
                                                      have c66b0 := eq_true c66
                                                      have c66b1 : decide (x4_7.size + 2 ≤ 9223372036854775807) = true := decide_eq_true c66
                                                      try have c66b2 : (9223372036854775807 < x4_7.size + 2) = False := eq_false (Nat.not_lt.2 c66)
                                                      by_cases c67 : 0 ≤ x7_7
                                                      · rw [if_pos c67] at H
                                                        have c67b0 : decide (0 ≤ x7_7) = true := decide_eq_true c67
                                                        clear c67
                                                        replace H := Option.bind_eq_some_iff.mp H
                                                        obtain ⟨t128, A680, H⟩ := H
                                                        replace H : (if (x4_7 ++ (⟨#[44, 32]⟩ : ByteArray)).size + t128.size ≤ 9223372036854775807 then (strataref17_result.l2 k7 ((x4_7 ++ (⟨#[44, 32]⟩ : ByteArray)) ++ t128) x6_6 (wrap64 (x7_7 + 1)) a0_4 l0_5 l0_6 a0_7 a0_8 a0_9) else (none)) = some r := H
                                                        have A68 := Aside0.mk A680
                                                        clear A680
                                                        by_cases c69 : (x4_7 ++ (⟨#[44, 32]⟩ : ByteArray)).size + t128.size ≤ 9223372036854775807
                                                        · rw [if_pos c69] at H
                                                          have c69b0 := eq_true c69
                                                          have c69b1 : decide ((x4_7 ++ (⟨#[44, 32]⟩ : ByteArray)).size + t128.size ≤ 9223372036854775807) = true := decide_eq_true c69
                                                          try have c69b2 : (9223372036854775807 < (x4_7 ++ (⟨#[44, 32]⟩ : ByteArray)).size + t128.size) = False := eq_false (Nat.not_lt.2 c69)
                                                          try (have c69b3 := c69b2; simp only [ByteArray.size_append, ByteArray.size_extract] at c69b3)
                                                          try (have c69b4 := c69b2; simp only [ByteArray.size_append, ByteArray.size_extract, bsz, List.size_toArray, List.length_cons, List.length_nil, Nat.reduceAdd] at c69b4)
                                                          have H' := Aside0.mk H
                                                          clear H
                                                          have hnb70 := NB118_117.out
                                                          have hnc70 := NB117_118.out
                                                          have hcz71_0 : wr.cell? ⟨gb118, 0, none⟩ = some (.int .i64 a0_4) := (blk_cell BK118.out 0).trans rfl
                                                          have hcz71_1 : wr.cell? ⟨gb118, 1, none⟩ = some (.slice A0_5 l0_5.length c0_5) := (blk_cell BK118.out 1).trans rfl
                                                          have hcz71_2 : wr.cell? ⟨gb118, 2, none⟩ = some (.slice A0_6 l0_6.length c0_6) := (blk_cell BK118.out 2).trans rfl
                                                          have hcz71_3 : wr.cell? ⟨gb118, 3, none⟩ = some (.int .i64 a0_7) := (blk_cell BK118.out 3).trans rfl
                                                          have hcz71_4 : wr.cell? ⟨gb118, 4, none⟩ = some (.int .u64 a0_8) := (blk_cell BK118.out 4).trans rfl
                                                          have hcz71_5 : wr.cell? ⟨gb118, 5, none⟩ = some (.int .i64 a0_9) := (blk_cell BK118.out 5).trans rfl
                                                          have hfz71_0 := blk_frozen BK118.out 0
                                                          have hfz71_1 := blk_frozen BK118.out 1
                                                          have hfz71_2 := blk_frozen BK118.out 2
                                                          have hfz71_3 := blk_frozen BK118.out 3
                                                          have hfz71_4 := blk_frozen BK118.out 4
                                                          have hfz71_5 := blk_frozen BK118.out 5
                                                          have p125 : 0 ≤ (x6_6 : Int) := of_decide_eq_true (by first | (with_reducible assumption) | assumption)
                                                          have q125 : x6_6 < (l0_6.length : Int) := of_decide_eq_true (by first | (with_reducible assumption) | assumption)
                                                          obtain ⟨ad125, A125_0, c125_0, e125, hx125_0, hl125_0, hi125_0⟩ := at_L4 HR0_6.out x6_6 p125 q125
                                                          cases e125
                                                          replace hx125_0 := (HB.out.cell (World.block_lt_of_cell? w _ hx125_0)).trans hx125_0
                                                          have HR125_0 := Aside0.mk hi125_0
                                                          have HC125_0 := Aside0.mk hl125_0
                                                          clear hi125_0 hl125_0
                                                          replace p125 := eq_true p125
                                                          replace q125 := eq_true q125
                                                          have p126 : 0 ≤ (x6_6 : Int) := of_decide_eq_true (by first | (with_reducible assumption) | assumption)
                                                          have q126 : x6_6 < (l0_6.length : Int) := of_decide_eq_true (by first | (with_reducible assumption) | assumption)
                                                          obtain ⟨ad126, A126_0, c126_0, e126, hx126_0, hl126_0, hi126_0⟩ := at_L4 HR0_6.out x6_6 p126 q126
                                                          obtain rfl : ad125 = ad126 := (by injection e126)
                                                          replace hx126_0 := (HB.out.cell (World.block_lt_of_cell? w _ hx126_0)).trans hx126_0
                                                          have HR126_0 := Aside0.mk hi126_0
                                                          have HC126_0 := Aside0.mk hl126_0
                                                          clear hi126_0 hl126_0
                                                          replace p126 := eq_true p126
                                                          replace q126 := eq_true q126
                                                          have ea_ := Option.some.inj (hx125_0.symm.trans hx126_0)
                                                          injection ea_ with ea_ en_ ec_
                                                          subst ea_
                                                          subst ec_
                                                          clear en_
                                                          have p127 : 0 ≤ (x7_7 : Int) := of_decide_eq_true (by first | (with_reducible assumption) | assumption)
                                                          have q127 : x7_7 < ((rd_L4 l0_6 x6_6).length : Int) := of_decide_eq_true (by first | (with_reducible assumption) | assumption)
                                                          obtain ⟨ad127, e127, hx127_0, hx127_1, hx127_2⟩ := at_T84 HR126_0.out x7_7 p127 q127
                                                          cases e127
                                                          replace hx127_0 := (HB.out.cell (World.block_lt_of_cell? w _ hx127_0)).trans hx127_0
                                                          replace hx127_1 := (HB.out.cell (World.block_lt_of_cell? w _ hx127_1)).trans hx127_1
                                                          replace hx127_2 := (HB.out.cell (World.block_lt_of_cell? w _ hx127_2)).trans hx127_2
                                                          replace p127 := eq_true p127
                                                          replace q127 := eq_true q127
                                                          go_wp2_with (first | ((with_reducible refine gate_callee (f := 65) rfl ?_); refine goesL_ (some 100) rfl rfl Tryd.func65 (by kernel_rfl) rfl #[.agg #[.int .i64 ((rd_T84 (rd_L4 l0_6 x6_6) x7_7).f0), .int .i64 ((rd_T84 (rd_L4 l0_6 x6_6) x7_7).f1), .string ((rd_T84 (rd_L4 l0_6 x6_6) x7_7).f2)]] rfl (by (try simp only [List.map_toArray, List.map_cons, List.map_nil]); first | done | rfl | (simp only [List.length_drop, List.length_take]; rfl)) ?_; (with_reducible refine (strataref17_word.calls k7 ((rd_T84 (rd_L4 l0_6 x6_6) x7_7).f0) ((rd_T84 (rd_L4 l0_6 x6_6) x7_7).f1) ((rd_T84 (rd_L4 l0_6 x6_6) x7_7).f2) t128 _ A68.out).mono ?_); rintro e w72 ⟨rfl, hb⟩; refine ⟨_, rfl, ?_⟩; have n0_ := Aside0.mk (blk_below (g := gb117) (o := .cells #[.int .i64 a0_0, .int .i64 a0_1, .int .i64 a0_2, .int .i64 a0_3, .int .i64 a0_4, .slice A0_5 l0_5.length c0_5, .slice (some ad125) l0_6.length c0_6, .int .i64 a0_7, .int .u64 a0_8, .int .i64 a0_9, .slice A0_10 l0_10.length c0_10] 36 (0, 0)) (by (with_reducible repeat (first | refine blk_drewN ?_ _ | refine blk_drew ?_ | refine blk_alloc ?_ _)); exact BK117.out) hb); have n1_ := Aside0.mk (blk_below (g := gb118) (o := .cells #[.int .i64 a0_4, .slice A0_5 l0_5.length c0_5, .slice (some ad125) l0_6.length c0_6, .int .i64 a0_7, .int .u64 a0_8, .int .i64 a0_9] 34 (0, 0)) (by (with_reducible repeat (first | refine blk_drewN ?_ _ | refine blk_drew ?_ | refine blk_alloc ?_ _)); exact BK118.out) hb); have n2_ := Aside0.mk (below_step (by repeat (first | (with_reducible first | exact HB.out | apply below_alloc | apply pw_below_drewN | apply below_drew1 | refine below_set ?_ GE117.out | refine below_set ?_ GE118.out) | exact HB.out)) hb); clear BK117; clear BK118; clear HB; have BK117 := n0_; have BK118 := n1_; have HB := n2_; clear n0_ n1_ n2_; (try clear hb); (try clear hb2); (try clear hk); (try clear hi)))
                                                          go_roundg k7
                                                          case measure => have := HJ1.out; have := HJ14.out; have := HJ24.out; have := HJ29.out; have := HK5.out; have := HK6.out; have := HK7.out; omega
                                                          case rel => exact ⟨((x4_7 ++ (⟨#[44, 32]⟩ : ByteArray)) ++ t128), (wrap64 (x7_7 + 1)), (by first | rfl | (simp; done) | (simp [*]; done)), (by first | rfl | (simp; done) | (simp [*]; done)), H', ⟨by have := HJ1.out; have := HJ14.out; have := HJ24.out; have := HJ29.out; have := HK5.out; have := HK6.out; have := HK7.out; omega⟩, ⟨by (with_reducible repeat (first | refine blk_drewN ?_ _ | refine blk_drew ?_ | refine blk_alloc ?_ _)); exact BK117.out⟩, ⟨by (with_reducible repeat (first | refine blk_drewN ?_ _ | refine blk_drew ?_ | refine blk_alloc ?_ _)); exact BK118.out⟩, ⟨by repeat (first | (with_reducible first | exact HB.out | apply below_alloc | apply pw_below_drewN | apply below_drew1 | refine below_set ?_ GE117.out | refine below_set ?_ GE118.out) | exact HB.out)⟩⟩
                                                        · rw [if_neg c69] at H
                                                          exact absurd H (by simp)
                                                      · rw [if_neg c67] at H
                                                        exact absurd H (by simp)
                                                    · rw [if_neg c66] at H
                                                      exact absurd H (by simp)
                                                  · rw [if_neg c65] at H
                                                    have c65b0 : decide (0 < x7_7) = false := decide_eq_false c65
                                                    clear c65
                                                    by_cases c73 : 0 ≤ x7_7
                                                    · rw [if_pos c73] at H
                                                      have c73b0 : decide (0 ≤ x7_7) = true := decide_eq_true c73
                                                      clear c73
                                                      replace H := Option.bind_eq_some_iff.mp H
                                                      obtain ⟨t131, A740, H⟩ := H
                                                      replace H : (if x4_7.size + t131.size ≤ 9223372036854775807 then (strataref17_result.l2 k7 (x4_7 ++ t131) x6_6 (wrap64 (x7_7 + 1)) a0_4 l0_5 l0_6 a0_7 a0_8 a0_9) else (none)) = some r := H
                                                      have A74 := Aside0.mk A740
                                                      clear A740
                                                      by_cases c75 : x4_7.size + t131.size ≤ 9223372036854775807
                                                      · rw [if_pos c75] at H
                                                        have c75b0 := eq_true c75
                                                        have c75b1 : decide (x4_7.size + t131.size ≤ 9223372036854775807) = true := decide_eq_true c75
                                                        try have c75b2 : (9223372036854775807 < x4_7.size + t131.size) = False := eq_false (Nat.not_lt.2 c75)
                                                        have H' := Aside0.mk H
                                                        clear H
                                                        have hnb76 := NB118_117.out
                                                        have hnc76 := NB117_118.out
                                                        have hcz77_0 : wr.cell? ⟨gb118, 0, none⟩ = some (.int .i64 a0_4) := (blk_cell BK118.out 0).trans rfl
                                                        have hcz77_1 : wr.cell? ⟨gb118, 1, none⟩ = some (.slice A0_5 l0_5.length c0_5) := (blk_cell BK118.out 1).trans rfl
                                                        have hcz77_2 : wr.cell? ⟨gb118, 2, none⟩ = some (.slice A0_6 l0_6.length c0_6) := (blk_cell BK118.out 2).trans rfl
                                                        have hcz77_3 : wr.cell? ⟨gb118, 3, none⟩ = some (.int .i64 a0_7) := (blk_cell BK118.out 3).trans rfl
                                                        have hcz77_4 : wr.cell? ⟨gb118, 4, none⟩ = some (.int .u64 a0_8) := (blk_cell BK118.out 4).trans rfl
                                                        have hcz77_5 : wr.cell? ⟨gb118, 5, none⟩ = some (.int .i64 a0_9) := (blk_cell BK118.out 5).trans rfl
                                                        have hfz77_0 := blk_frozen BK118.out 0
                                                        have hfz77_1 := blk_frozen BK118.out 1
                                                        have hfz77_2 := blk_frozen BK118.out 2
                                                        have hfz77_3 := blk_frozen BK118.out 3
                                                        have hfz77_4 := blk_frozen BK118.out 4
                                                        have hfz77_5 := blk_frozen BK118.out 5
                                                        have p125 : 0 ≤ (x6_6 : Int) := of_decide_eq_true (by first | (with_reducible assumption) | assumption)
                                                        have q125 : x6_6 < (l0_6.length : Int) := of_decide_eq_true (by first | (with_reducible assumption) | assumption)
                                                        obtain ⟨ad125, A125_0, c125_0, e125, hx125_0, hl125_0, hi125_0⟩ := at_L4 HR0_6.out x6_6 p125 q125
                                                        cases e125
                                                        replace hx125_0 := (HB.out.cell (World.block_lt_of_cell? w _ hx125_0)).trans hx125_0
                                                        have HR125_0 := Aside0.mk hi125_0
                                                        have HC125_0 := Aside0.mk hl125_0
                                                        clear hi125_0 hl125_0
                                                        replace p125 := eq_true p125
                                                        replace q125 := eq_true q125
                                                        have p129 : 0 ≤ (x6_6 : Int) := of_decide_eq_true (by first | (with_reducible assumption) | assumption)
                                                        have q129 : x6_6 < (l0_6.length : Int) := of_decide_eq_true (by first | (with_reducible assumption) | assumption)
                                                        obtain ⟨ad129, A129_0, c129_0, e129, hx129_0, hl129_0, hi129_0⟩ := at_L4 HR0_6.out x6_6 p129 q129
                                                        obtain rfl : ad125 = ad129 := (by injection e129)
                                                        replace hx129_0 := (HB.out.cell (World.block_lt_of_cell? w _ hx129_0)).trans hx129_0
                                                        have HR129_0 := Aside0.mk hi129_0
                                                        have HC129_0 := Aside0.mk hl129_0
                                                        clear hi129_0 hl129_0
                                                        replace p129 := eq_true p129
                                                        replace q129 := eq_true q129
                                                        have ea_ := Option.some.inj (hx125_0.symm.trans hx129_0)
                                                        injection ea_ with ea_ en_ ec_
                                                        subst ea_
                                                        subst ec_
                                                        clear en_
                                                        have p130 : 0 ≤ (x7_7 : Int) := of_decide_eq_true (by first | (with_reducible assumption) | assumption)
                                                        have q130 : x7_7 < ((rd_L4 l0_6 x6_6).length : Int) := of_decide_eq_true (by first | (with_reducible assumption) | assumption)
                                                        obtain ⟨ad130, e130, hx130_0, hx130_1, hx130_2⟩ := at_T84 HR129_0.out x7_7 p130 q130
                                                        cases e130
                                                        replace hx130_0 := (HB.out.cell (World.block_lt_of_cell? w _ hx130_0)).trans hx130_0
                                                        replace hx130_1 := (HB.out.cell (World.block_lt_of_cell? w _ hx130_1)).trans hx130_1
                                                        replace hx130_2 := (HB.out.cell (World.block_lt_of_cell? w _ hx130_2)).trans hx130_2
                                                        replace p130 := eq_true p130
                                                        replace q130 := eq_true q130
                                                        go_wp2_with (first | ((with_reducible refine gate_callee (f := 65) rfl ?_); refine goesL_ (some 100) rfl rfl Tryd.func65 (by kernel_rfl) rfl #[.agg #[.int .i64 ((rd_T84 (rd_L4 l0_6 x6_6) x7_7).f0), .int .i64 ((rd_T84 (rd_L4 l0_6 x6_6) x7_7).f1), .string ((rd_T84 (rd_L4 l0_6 x6_6) x7_7).f2)]] rfl (by (try simp only [List.map_toArray, List.map_cons, List.map_nil]); first | done | rfl | (simp only [List.length_drop, List.length_take]; rfl)) ?_; (with_reducible refine (strataref17_word.calls k7 ((rd_T84 (rd_L4 l0_6 x6_6) x7_7).f0) ((rd_T84 (rd_L4 l0_6 x6_6) x7_7).f1) ((rd_T84 (rd_L4 l0_6 x6_6) x7_7).f2) t131 _ A74.out).mono ?_); rintro e w78 ⟨rfl, hb⟩; refine ⟨_, rfl, ?_⟩; have n0_ := Aside0.mk (blk_below (g := gb117) (o := .cells #[.int .i64 a0_0, .int .i64 a0_1, .int .i64 a0_2, .int .i64 a0_3, .int .i64 a0_4, .slice A0_5 l0_5.length c0_5, .slice (some ad125) l0_6.length c0_6, .int .i64 a0_7, .int .u64 a0_8, .int .i64 a0_9, .slice A0_10 l0_10.length c0_10] 36 (0, 0)) (by (with_reducible repeat (first | refine blk_drewN ?_ _ | refine blk_drew ?_ | refine blk_alloc ?_ _)); exact BK117.out) hb); have n1_ := Aside0.mk (blk_below (g := gb118) (o := .cells #[.int .i64 a0_4, .slice A0_5 l0_5.length c0_5, .slice (some ad125) l0_6.length c0_6, .int .i64 a0_7, .int .u64 a0_8, .int .i64 a0_9] 34 (0, 0)) (by (with_reducible repeat (first | refine blk_drewN ?_ _ | refine blk_drew ?_ | refine blk_alloc ?_ _)); exact BK118.out) hb); have n2_ := Aside0.mk (below_step (by repeat (first | (with_reducible first | exact HB.out | apply below_alloc | apply pw_below_drewN | apply below_drew1 | refine below_set ?_ GE117.out | refine below_set ?_ GE118.out) | exact HB.out)) hb); clear BK117; clear BK118; clear HB; have BK117 := n0_; have BK118 := n1_; have HB := n2_; clear n0_ n1_ n2_; (try clear hb); (try clear hb2); (try clear hk); (try clear hi)))
                                                        go_roundg k7
                                                        case measure => have := HJ1.out; have := HJ14.out; have := HJ24.out; have := HJ29.out; have := HK5.out; have := HK6.out; have := HK7.out; omega
                                                        case rel => exact ⟨(x4_7 ++ t131), (wrap64 (x7_7 + 1)), (by first | rfl | (simp; done) | (simp [*]; done)), (by first | rfl | (simp; done) | (simp [*]; done)), H', ⟨by have := HJ1.out; have := HJ14.out; have := HJ24.out; have := HJ29.out; have := HK5.out; have := HK6.out; have := HK7.out; omega⟩, ⟨by (with_reducible repeat (first | refine blk_drewN ?_ _ | refine blk_drew ?_ | refine blk_alloc ?_ _)); exact BK117.out⟩, ⟨by (with_reducible repeat (first | refine blk_drewN ?_ _ | refine blk_drew ?_ | refine blk_alloc ?_ _)); exact BK118.out⟩, ⟨by repeat (first | (with_reducible first | exact HB.out | apply below_alloc | apply pw_below_drewN | apply below_drew1 | refine below_set ?_ GE117.out | refine below_set ?_ GE118.out) | exact HB.out)⟩⟩
                                                      · rw [if_neg c75] at H
                                                        exact absurd H (by simp)
                                                    · rw [if_neg c73] at H
                                                      exact absurd H (by simp)
                                                · rw [if_neg c64] at H
                                                  have c64b0 : decide (x7_7 < ((rd_L4 l0_6 x6_6).length : Int)) = false := decide_eq_false c64
                                                  clear c64
                                                  by_cases c79 : x4_7.size + 1 ≤ 9223372036854775807
                                                  · rw [if_pos c79] at H
                                                    have c79b0 := eq_true c79
                                                    have c79b1 : decide (x4_7.size + 1 ≤ 9223372036854775807) = true := decide_eq_true c79
                                                    try have c79b2 : (9223372036854775807 < x4_7.size + 1) = False := eq_false (Nat.not_lt.2 c79)
                                                    have H' := Aside0.mk H
                                                    clear H
                                                    have hnb80 := NB118_117.out
                                                    have hnc80 := NB117_118.out
                                                    have hcz81_0 : wr.cell? ⟨gb118, 0, none⟩ = some (.int .i64 a0_4) := (blk_cell BK118.out 0).trans rfl
                                                    have hcz81_1 : wr.cell? ⟨gb118, 1, none⟩ = some (.slice A0_5 l0_5.length c0_5) := (blk_cell BK118.out 1).trans rfl
                                                    have hcz81_2 : wr.cell? ⟨gb118, 2, none⟩ = some (.slice A0_6 l0_6.length c0_6) := (blk_cell BK118.out 2).trans rfl
                                                    have hcz81_3 : wr.cell? ⟨gb118, 3, none⟩ = some (.int .i64 a0_7) := (blk_cell BK118.out 3).trans rfl
                                                    have hcz81_4 : wr.cell? ⟨gb118, 4, none⟩ = some (.int .u64 a0_8) := (blk_cell BK118.out 4).trans rfl
                                                    have hcz81_5 : wr.cell? ⟨gb118, 5, none⟩ = some (.int .i64 a0_9) := (blk_cell BK118.out 5).trans rfl
                                                    have hfz81_0 := blk_frozen BK118.out 0
                                                    have hfz81_1 := blk_frozen BK118.out 1
                                                    have hfz81_2 := blk_frozen BK118.out 2
                                                    have hfz81_3 := blk_frozen BK118.out 3
                                                    have hfz81_4 := blk_frozen BK118.out 4
                                                    have hfz81_5 := blk_frozen BK118.out 5
                                                    have p125 : 0 ≤ (x6_6 : Int) := of_decide_eq_true (by first | (with_reducible assumption) | assumption)
                                                    have q125 : x6_6 < (l0_6.length : Int) := of_decide_eq_true (by first | (with_reducible assumption) | assumption)
                                                    obtain ⟨ad125, A125_0, c125_0, e125, hx125_0, hl125_0, hi125_0⟩ := at_L4 HR0_6.out x6_6 p125 q125
                                                    cases e125
                                                    replace hx125_0 := (HB.out.cell (World.block_lt_of_cell? w _ hx125_0)).trans hx125_0
                                                    have HR125_0 := Aside0.mk hi125_0
                                                    have HC125_0 := Aside0.mk hl125_0
                                                    clear hi125_0 hl125_0
                                                    replace p125 := eq_true p125
                                                    replace q125 := eq_true q125
                                                    go_wp2
                                                    go_roundg k7
                                                    case measure => have := HJ1.out; have := HJ14.out; have := HJ24.out; have := HJ29.out; have := HK5.out; have := HK6.out; have := HK7.out; omega
                                                    case rel => exact ⟨(x4_7 ++ (⟨#[10]⟩ : ByteArray)), (wrap64 (x6_6 + 1)), (by first | rfl | (simp; done) | (simp [*]; done)), (by first | rfl | (simp; done) | (simp [*]; done)), H', ⟨by have := HJ1.out; have := HJ14.out; have := HJ24.out; have := HJ29.out; have := HK5.out; have := HK6.out; have := HK7.out; omega⟩, ⟨by (with_reducible repeat (first | refine blk_drewN ?_ _ | refine blk_drew ?_ | refine blk_alloc ?_ _)); exact BK117.out⟩, ⟨by (with_reducible repeat (first | refine blk_drewN ?_ _ | refine blk_drew ?_ | refine blk_alloc ?_ _)); exact BK118.out⟩, ⟨by repeat (first | (with_reducible first | exact HB.out | apply below_alloc | apply pw_below_drewN | apply below_drew1 | refine below_set ?_ GE117.out | refine below_set ?_ GE118.out) | exact HB.out)⟩⟩
                                                  · rw [if_neg c79] at H
                                                    exact absurd H (by simp)
                                              · rw [if_neg c63] at H
                                                exact absurd H (by simp)
                                            · rw [if_neg c62] at H
                                              exact absurd H (by simp)
                                      · rw [if_neg c59] at H
                                        exact absurd H (by simp)
                                    · rw [if_neg c58] at H
                                      have c58b0 : decide (x6_6 < (l0_6.length : Int)) = false := decide_eq_false c58
                                      clear c58
                                      obtain rfl := Option.some.inj H
                                      have hnb82 := NB118_117.out
                                      have hnc82 := NB117_118.out
                                      have hcz83_0 : wr.cell? ⟨gb118, 0, none⟩ = some (.int .i64 a0_4) := (blk_cell BK118.out 0).trans rfl
                                      have hcz83_1 : wr.cell? ⟨gb118, 1, none⟩ = some (.slice A0_5 l0_5.length c0_5) := (blk_cell BK118.out 1).trans rfl
                                      have hcz83_2 : wr.cell? ⟨gb118, 2, none⟩ = some (.slice A0_6 l0_6.length c0_6) := (blk_cell BK118.out 2).trans rfl
                                      have hcz83_3 : wr.cell? ⟨gb118, 3, none⟩ = some (.int .i64 a0_7) := (blk_cell BK118.out 3).trans rfl
                                      have hcz83_4 : wr.cell? ⟨gb118, 4, none⟩ = some (.int .u64 a0_8) := (blk_cell BK118.out 4).trans rfl
                                      have hcz83_5 : wr.cell? ⟨gb118, 5, none⟩ = some (.int .i64 a0_9) := (blk_cell BK118.out 5).trans rfl
                                      have hfz83_0 := blk_frozen BK118.out 0
                                      have hfz83_1 := blk_frozen BK118.out 1
                                      have hfz83_2 := blk_frozen BK118.out 2
                                      have hfz83_3 := blk_frozen BK118.out 3
                                      have hfz83_4 := blk_frozen BK118.out 4
                                      have hfz83_5 := blk_frozen BK118.out 5
                                      go_wp2
                                      go_ret
                                      exact ⟨by first | rfl | (simp [errW_none, errW_some] <;> rfl) | (simp [*, errW_none, errW_some] <;> rfl), by repeat (first | (with_reducible first | exact HB.out | apply below_alloc | apply pw_below_drewN | apply below_drew1 | refine below_set ?_ GE117.out | refine below_set ?_ GE118.out) | exact HB.out)⟩
                              · rw [if_neg c55] at H
                                exact absurd H (by simp)
                      · rw [if_neg c39] at H
                        exact absurd H (by simp)
                  · rw [if_neg c35] at H
                    exact absurd H (by simp)

end Go.Proofs.YtggbhdcgfnjogaaDoor.PSp
