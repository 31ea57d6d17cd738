/- What the document's Print writes (digits, stamp, head, code, quoted, word) is what the program's own texts are (itoa, decDigits, headW, codeL, quoteL, valueL). -/
import Derived.Test.YtggbhdcgfnjogaaDoorPSpx4
import Derived.Lib.SplitLaws
set_option linter.unusedVariables false
namespace Go.Proofs.YtggbhdcgfnjogaaDoor.PrintLaw
open Go.RowKit Go.Proofs.YtggbhdcgfnjogaaDoor.PSp Go.Proofs.YtggbhdcgfnjogaaDoorW.PrintWords Go.Proofs.YtggbhdcgfnjogaaDoorW.PrintLast

theorem wrap_ok {i : Int} (h0 : -9223372036854775808 ≤ i) (h1 : i ≤ 9223372036854775807) : wrap64 i = i := by
  unfold wrap64
  omega
theorem dig_one (u : Nat) (h : u < 10) : strOfNums [(48 + (u : Int)) % 256] = str (Lib.decDigits u) := by
  rw [Lib.decDigits_one h]
  have e : (48 + (u : Int)) % 256 = ((48 + u : Nat) : Int) := by omega
  rw [e]
  rfl
theorem dec_more (u : Nat) (h : ¬ u < 10) : Lib.decDigits u = Lib.decDigits (u / 10) ++ Lib.decDigits (u % 10) := by
  rw [Lib.decDigits_one (show u % 10 < 10 by omega)]
  conv => lhs; rw [Lib.decDigits]
  rw [dif_neg h]
theorem str_add (a b : List UInt8) : str a ++ str b = str (a ++ b) := app_str a b
theorem dec_len (u : Nat) (h : u < 18446744073709551616) : (Lib.decDigits u).length ≤ 20 := by
  rw [Lib.decDigits_length]
  exact Lib.nDigits_le20 u h
theorem digits_nat : ∀ (n u : Nat), u < n → u < 9223372036854775808 → Ev (fun k => strataref17_digits.f k (u : Int)) (str (Lib.decDigits u)) := by
  intro n
  induction n with
  | zero => intro u h; omega
  | succ n ih =>
    intro u hn hu
    by_cases h : u < 10
    · refine Ev.step (f := fun _ => some (str (Lib.decDigits u))) (fun k => ?_) (Ev.now _)
      show strataref17_digits.f (k + 1) (u : Int) = _
      rw [strataref17_digits.f, if_neg (by omega), if_neg (by omega), if_pos (by omega), wrap_ok (by omega) (by omega), dig_one u h]
    · refine Ev.step (f := fun k => (strataref17_digits.f k ((u / 10 : Nat) : Int)).bind fun a => (strataref17_digits.f k ((u % 10 : Nat) : Int)).bind fun b => if a.size + b.size ≤ 9223372036854775807 then some (a ++ b) else none) (fun k => ?_) ?_
      · show strataref17_digits.f (k + 1) (u : Int) = _
        have e1 : Int.tdiv (u : Int) 10 = ((u / 10 : Nat) : Int) := (Int.ofNat_tdiv u 10).symm
        have e2 : Int.tmod (u : Int) 10 = ((u % 10 : Nat) : Int) := (Int.ofNat_tmod u 10).symm
        rw [strataref17_digits.f, if_neg (by omega), if_neg (by omega), if_neg (by omega), e1, e2, wrap_ok (by omega) (by omega)]
      · refine Ev.bind (ih (u / 10) (by omega) (by omega)) (Ev.bind (ih (u % 10) (by omega) (by omega)) ?_)
        have l1 := dec_len (u / 10) (by omega)
        have l2 := dec_len (u % 10) (by omega)
        rw [str_size, str_size, if_pos (by omega), str_add, ← dec_more u h]
        exact Ev.now _
theorem digits_ev (n : Int) (h : inI n) : Ev (fun k => strataref17_digits.f k n) (str (Lib.itoa n)) := by
  obtain ⟨h0, h1⟩ := h
  by_cases e : n = -9223372036854775808
  · subst e
    refine Ev.step (f := fun _ => some (str (Lib.itoa (-9223372036854775808)))) (fun k => ?_) (Ev.now _)
    show strataref17_digits.f (k + 1) (-9223372036854775808) = _
    rw [strataref17_digits.f, if_pos rfl]
    apply congrArg some
    show _ = str (Lib.itoa (-((9223372036854775808 : Nat) : Int)))
    rw [Lib.itoa_neg _ (by omega)]
    simp [Lib.decDigits]
  · by_cases hn : n < 0
    · obtain ⟨u, rfl⟩ : ∃ u : Nat, n = -(u : Int) := ⟨n.natAbs, by omega⟩
      refine Ev.step (f := fun k => (strataref17_digits.f k (u : Int)).bind fun a => if 1 + a.size ≤ 9223372036854775807 then some ((⟨#[45]⟩ : ByteArray) ++ a) else none) (fun k => ?_) ?_
      · show strataref17_digits.f (k + 1) (-(u : Int)) = _
        rw [strataref17_digits.f, if_neg e, if_pos hn, Int.neg_neg, wrap_ok (by omega) (by omega)]
      · refine Ev.bind (digits_nat (u + 1) u (by omega) (by omega)) ?_
        have l1 := dec_len u (by omega)
        rw [str_size, if_pos (by omega), Lib.itoa_neg u (by omega)]
        exact Ev.congr (fun _ => congrArg some (str_add [45] (Lib.decDigits u))) (Ev.now _)
    · obtain ⟨u, rfl⟩ : ∃ u : Nat, n = (u : Int) := ⟨n.toNat, by omega⟩
      rw [Lib.itoa_nonneg]
      exact digits_nat (u + 1) u (by omega) (by omega)
theorem stamp_ev : ∀ (n u : Nat), u < n → u < 18446744073709551616 → Ev (fun k => strataref17_stamp.f k (u : Int)) (str (Lib.decDigits u)) := by
  intro n
  induction n with
  | zero => intro u h; omega
  | succ n ih =>
    intro u hn hu
    by_cases h : u < 10
    · refine Ev.step (f := fun _ => some (str (Lib.decDigits u))) (fun k => ?_) (Ev.now _)
      show strataref17_stamp.f (k + 1) (u : Int) = _
      rw [strataref17_stamp.f, if_pos (by omega), wrap_ok (i := (u : Int)) (by omega) (by omega), wrap_ok (by omega) (by omega), dig_one u h]
    · refine Ev.step (f := fun k => (strataref17_stamp.f k ((u / 10 : Nat) : Int)).bind fun a => (strataref17_stamp.f k ((u % 10 : Nat) : Int)).bind fun b => if a.size + b.size ≤ 9223372036854775807 then some (a ++ b) else none) (fun k => ?_) ?_
      · show strataref17_stamp.f (k + 1) (u : Int) = _
        have e1 : Int.tdiv (u : Int) 10 = ((u / 10 : Nat) : Int) := (Int.ofNat_tdiv u 10).symm
        have e2 : Int.tmod (u : Int) 10 = ((u % 10 : Nat) : Int) := (Int.ofNat_tmod u 10).symm
        have e3 : IntKind.u64.wrap ((u / 10 : Nat) : Int) = ((u / 10 : Nat) : Int) := by
          show (((u / 10 : Nat) : Int)) % 18446744073709551616 = _
          omega
        rw [strataref17_stamp.f, if_neg (by omega), e1, e2, e3]
      · refine Ev.bind (ih (u / 10) (by omega) (by omega)) (Ev.bind (ih (u % 10) (by omega) (by omega)) ?_)
        have l1 := dec_len (u / 10) (by omega)
        have l2 := dec_len (u % 10) (by omega)
        rw [str_size, str_size, if_pos (by omega), str_add, ← dec_more u h]
        exact Ev.now _
theorem code_ev (c : Int) (h : inI c) : Ev (fun k => strataref17_code.f k c) (str (codeL c)) := by
  by_cases c0 : c = 0
  · refine Ev.congr (f := fun _ => some (str (codeL c))) (fun k => ?_) (Ev.now _)
    unfold strataref17_code.f codeL
    rw [if_pos c0, if_pos c0]
  · refine Ev.congr (f := fun k => (strataref17_digits.f k c).bind fun t => if 1 + t.size ≤ 9223372036854775807 then some ((⟨#[69]⟩ : ByteArray) ++ t) else none) (fun k => ?_) (Ev.bind (digits_ev c h) ?_)
    · unfold strataref17_code.f
      rw [if_neg c0]
    · have l1 := itoa_le c h
      rw [str_size, if_pos (by omega)]
      unfold codeL
      rw [if_neg c0]
      exact Ev.congr (fun _ => congrArg some (str_add [69] (Lib.itoa c))) (Ev.now _)
theorem head_ev (kind who : Int) (h : inI who) : Ev (fun k => strataref17_head.f k kind who) (str (headW kind who)) := by
  by_cases c1 : kind = 1
  · refine Ev.congr (f := fun k => (strataref17_digits.f k who).bind fun t => if 1 + t.size ≤ 9223372036854775807 then some ((⟨#[64]⟩ : ByteArray) ++ t) else none) (fun k => ?_) (Ev.bind (digits_ev who h) ?_)
    · unfold strataref17_head.f
      rw [if_pos c1]
    · have l1 := itoa_le who h
      rw [str_size, if_pos (by omega)]
      unfold headW
      rw [if_pos c1]
      exact Ev.congr (fun _ => congrArg some (str_add [64] (Lib.itoa who))) (Ev.now _)
  · refine Ev.congr (f := fun _ => some (str (headW kind who))) (fun k => ?_) (Ev.now _)
    unfold strataref17_head.f headW
    rw [if_neg c1, if_neg c1]
    by_cases c2 : kind < 0 ∨ 13 ≤ kind
    · rw [if_pos c2, if_neg (by omega), if_neg (by omega), if_neg (by omega), if_neg (by omega), if_neg (by omega), if_neg (by omega), if_neg (by omega), if_neg (by omega), if_neg (by omega), if_neg (by omega), if_neg (by omega)]
    · rw [if_neg c2]
      have hk : kind = 0 ∨ kind = 2 ∨ kind = 3 ∨ kind = 4 ∨ kind = 5 ∨ kind = 6 ∨ kind = 7 ∨ kind = 8 ∨ kind = 9 ∨ kind = 10 ∨ kind = 11 ∨ kind = 12 := by omega
      rcases hk with rfl | rfl | rfl | rfl | rfl | rfl | rfl | rfl | rfl | rfl | rfl | rfl <;> rfl
/-! Every quote becomes two: strings.ReplaceAll does what the document's loop does. -/
theorem index_one (s : List UInt8) : (39 ∉ s ∧ Lib.index s [39] = -1) ∨ ∃ (a b : List UInt8), s = a ++ 39 :: b ∧ 39 ∉ a ∧ Lib.index s [39] = (a.length : Int) := by
  induction s with
  | nil => exact Or.inl ⟨by simp, rfl⟩
  | cons x l ih =>
    unfold Lib.index
    by_cases hx : x = 39
    · subst hx
      exact Or.inr ⟨[], l, rfl, by simp, by simp [List.isPrefixOf]⟩
    · have hp : ([39] : List UInt8).isPrefixOf (x :: l) = false := by
        simp [List.isPrefixOf]
        exact fun h => hx h.symm
      rw [if_neg (by rw [hp]; simp)]
      rcases ih with ⟨h1, h2⟩ | ⟨a, b, h1, h2, h3⟩
      · left
        refine ⟨by simp only [List.mem_cons, not_or]; exact ⟨fun h => hx h.symm, h1⟩, ?_⟩
        rw [h2]
        rfl
      · right
        refine ⟨x :: a, b, by rw [h1]; rfl, by simp only [List.mem_cons, not_or]; exact ⟨fun h => hx h.symm, h2⟩, ?_⟩
        rw [h3, if_neg (by simp)]
        simp
theorem qL_none (s : List UInt8) (h : 39 ∉ s) : qL s = s := by
  induction s with
  | nil => rfl
  | cons x l ih =>
    simp only [List.mem_cons, not_or] at h
    have := ih h.2
    unfold qL at this ⊢
    rw [List.flatMap_cons, this, if_neg (fun e => h.1 e.symm)]
    rfl
theorem qL_app (a b : List UInt8) : qL (a ++ b) = qL a ++ qL b := by
  unfold qL
  exact List.flatMap_append ..
theorem repK_q : ∀ (k : Nat) (s : List UInt8), (s.filter (· == 39)).length ≤ k → Lib.replaceK [39] [39, 39] k s = qL s := by
  intro k
  induction k with
  | zero =>
    intro s h
    have : 39 ∉ s := by
      intro hm
      have : 39 ∈ s.filter (· == 39) := List.mem_filter.2 ⟨hm, rfl⟩
      have := List.length_pos_of_mem this
      omega
    rw [qL_none s this]
    rfl
  | succ k ih =>
    intro s h
    unfold Lib.replaceK
    rcases index_one s with ⟨h1, h2⟩ | ⟨a, b, h1, h2, h3⟩
    · rw [h2, if_pos (by decide), qL_none s h1]
    · rw [h3, if_neg (by simp)]
      subst h1
      have e1 : (a ++ 39 :: b).take ((a.length : Int)).toNat = a := by simp
      have e2 : (a ++ 39 :: b).drop (((a.length : Int)).toNat + ([39] : List UInt8).length) = b := by
        rw [Int.toNat_natCast, List.length_singleton, List.drop_append]
        simp
      rw [e1, e2, ih b ?_, qL_app, qL_none a h2]
      · simp [qL]
      · rw [List.filter_append] at h
        simp at h
        omega
theorem quoteL_q (l : List UInt8) : quoteL l = 39 :: (qL l ++ [39]) := by
  unfold quoteL Lib.replaceAll Lib.replace
  rw [if_neg (by decide), repK_q]
  unfold Lib.replaceNum
  rw [if_pos (by omega), Lib.count_one, List.count_eq_countP, List.countP_eq_length_filter]
  exact Nat.le_refl _
theorem quoted_ev (s : ByteArray) (h : s.size ≤ 1000000000) : strataref17_quoted.f s = some (str (quoteL s.data.toList)) := by
  unfold strataref17_quoted.f
  rw [if_pos h, quoteL_q]
theorem word_ev (x : S84) (h : okVal x) : Ev (fun k => strataref17_word.f k x.f0 x.f1 x.f2) (str (valueL x)) := by
  unfold valueL
  by_cases c1 : x.f0 = 1
  · refine Ev.congr (f := fun _ => some (str (if x.f1 = 1 then [84, 82, 85, 69] else [70, 65, 76, 83, 69]))) (fun k => ?_) ?_
    · unfold strataref17_word.f
      rw [if_pos c1]
      split <;> rfl
    · rw [if_neg (show ¬ x.f0 = 2 by omega), if_neg (show ¬ x.f0 = 3 by omega), if_pos c1]
      exact Ev.now _
  · by_cases c2 : x.f0 = 2
    · refine Ev.congr (f := fun k => (strataref17_digits.f k x.f1).bind fun t => some t) (fun k => ?_) (Ev.bind (digits_ev x.f1 h.1) ?_)
      · unfold strataref17_word.f
        rw [if_neg c1, if_pos c2]
      · rw [if_pos c2]
        exact Ev.now _
    · by_cases c3 : x.f0 = 3
      · refine Ev.congr (f := fun _ => some (str (quoteL x.f2.data.toList))) (fun k => ?_) ?_
        · unfold strataref17_word.f
          rw [if_neg c1, if_neg c2, if_pos c3, quoted_ev x.f2 h.2]
          rfl
        · rw [if_neg c2, if_pos c3]
          exact Ev.now _
      · refine Ev.congr (f := fun _ => some (str [78, 85, 76, 76])) (fun k => ?_) ?_
        · unfold strataref17_word.f
          rw [if_neg c1, if_neg c2, if_neg c3]
        · rw [if_neg c2, if_neg c3, if_neg c1]
          exact Ev.now _
end Go.Proofs.YtggbhdcgfnjogaaDoor.PrintLaw
