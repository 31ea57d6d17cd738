/- What the document's Print writes is what the program's Print writes (printL). -/
import Derived.Test.YtggbhdcgfnjogaaDoorLawPrint2
import Derived.Test.YtggbhdcgfnjogaaDoorPSpx6
import Derived.Test.YtggbhdcgfnjogaaDoorPSpx7
set_option linter.unusedVariables false
set_option linter.unusedSimpArgs false
namespace Go.Proofs.YtggbhdcgfnjogaaDoor.PrintLaw
open Go.RowKit Go.Proofs.YtggbhdcgfnjogaaDoor.PSp Go.Proofs.YtggbhdcgfnjogaaDoorW.PrintWords Go.Proofs.YtggbhdcgfnjogaaDoorW.PrintLast

theorem pl1_ev (qs : List S36) (X : ByteArray) (i : Nat) (hi : i < 1000000000) (a0 a1 a2 a3 a4 : Int) (a5 : List ByteArray) (a6 : List (List S84)) (a7 a8 a9 : Int) (nums : List Int) (hl : nums.length ≤ 1000000000) (hn : ∀ n ∈ nums, inI n) (S : List UInt8) (hS : S.length + (numsL nums).length + 1 ≤ 140737488355328)
    (hc : Ev (fun k => strataref17_Print.l0 k qs (str (S ++ numsL nums ++ [10])) ((i + 1 : Nat) : Int)) X) :
    ∀ (d j : Nat), j + d = nums.length → Ev (fun k => strataref17_Print.l1 k qs (str (S ++ numsL (nums.take j))) (i : Int) (j : Int) a0 a1 a2 a3 a4 a5 a6 a7 a8 a9 nums) X := by
  intro d
  induction d with
  | zero =>
    intro j hj
    have e : nums.take j = nums := List.take_of_length_le (by omega)
    rw [e]
    refine Ev.step (fun k => ?_) hc
    show strataref17_Print.l1 (k + 1) _ _ _ _ _ _ _ _ _ _ _ _ _ _ _ = _
    rw [strataref17_Print.l1, if_neg (by omega), str_size, List.length_append, if_pos (by omega), succ_ok i hi]
    exact congrArg (fun s => strataref17_Print.l0 k qs s ((i + 1 : Nat) : Int)) (str_add _ [10])
  | succ d ih =>
    intro j hj
    have hjl : j < nums.length := by omega
    have hX := nums_take nums j hjl _ rfl
    have hm := nums_len nums (j + 1)
    have ih1 := ih (j + 1) (by omega)
    rw [hX] at hm ih1
    simp only [List.length_append, List.length_cons] at hm
    have hw := digits_ev nums[j] (hn _ (List.getElem_mem hjl))
    refine Ev.step (f := fun k => (strataref17_digits.f k nums[j]).bind fun t => if (str (S ++ numsL (nums.take j)) ++ (⟨#[32]⟩ : ByteArray)).size + t.size ≤ 9223372036854775807 then strataref17_Print.l1 k qs ((str (S ++ numsL (nums.take j)) ++ (⟨#[32]⟩ : ByteArray)) ++ t) (i : Int) ((j + 1 : Nat) : Int) a0 a1 a2 a3 a4 a5 a6 a7 a8 a9 nums else none) (fun k => ?_) (Ev.bind hw ?_)
    · show strataref17_Print.l1 (k + 1) _ _ _ _ _ _ _ _ _ _ _ _ _ _ _ = _
      rw [strataref17_Print.l1, if_pos (by omega), str_size, List.length_append, if_pos (by omega), if_pos (by omega), rdI_lt nums j hjl, succ_ok j (by omega)]
    · have e1 : str (S ++ numsL (nums.take j)) ++ (⟨#[32]⟩ : ByteArray) = str (S ++ numsL (nums.take j) ++ [32]) := str_add _ [32]
      rw [e1, str_size, str_size, str_add]
      refine Ev.congr (fun k => if_pos (by simp only [List.length_append, List.length_cons, List.length_nil]; omega)) ?_
      simpa [List.append_assoc] using ih1
theorem e32 : (⟨#[32]⟩ : ByteArray) = str [32] := rfl
theorem pl0_ev (rs : List S32) (hO : okAll rs) : ∀ (d i : Nat), i + d = rs.length → Ev (fun k => strataref17_Print.l0 k (rs.map toRef) (str (printL (rs.take i))) (i : Int)) (str (printL rs)) := by
  obtain ⟨hl, ho, hS⟩ := hO
  intro d
  induction d with
  | zero =>
    intro i hi
    have e : rs.take i = rs := List.take_of_length_le (by omega)
    rw [e]
    refine Ev.step (f := fun _ => some (str (printL rs))) (fun k => ?_) (Ev.now _)
    show strataref17_Print.l0 (k + 1) _ _ _ = _
    rw [strataref17_Print.l0, if_neg (by rw [List.length_map]; omega)]
  | succ d ih =>
    intro i hi
    have hil : i < rs.length := by omega
    have hX := print_take rs i hil _ rfl
    have hm := print_len rs (i + 1)
    have ih1 := ih (i + 1) (by omega)
    have hok := ho _ (List.getElem_mem hil)
    have hq : rd_T36 (rs.map toRef) (i : Int) = toRef rs[i] := (rdQ_map rs i hil).trans (congrArg toRef (rdR_lt rs i hil))
    rw [hX] at hm ih1
    generalize rs[i] = x at *
    obtain ⟨st, hst⟩ : ∃ st : Nat, x.f4.f4 = (st : Int) := ⟨x.f4.f4.toNat, (Int.toNat_of_nonneg hok.st0).symm⟩
    have hres := hok.res
    rw [hst, Int.toNat_natCast] at hres
    have hR : repL x = repHead x.f0 x.f1 x.f2 x.f3 ++ (if x.f1 = 1 then resL x.f4.f3 st x.f4.f5 x.f4.f1 x.f4.f2 else numsL x.f5 ++ [10]) := by unfold repL; rw [hst, Int.toNat_natCast]
    rw [hR] at hm ih1
    have hlen : (repHead x.f0 x.f1 x.f2 x.f3).length = (Lib.itoa x.f0).length + 1 + (headW x.f1 x.f2).length + 1 + (codeL x.f3).length := by simp only [repHead, List.length_append, List.length_cons, List.length_nil]
    rw [List.length_append, List.length_append, hlen] at hm
    generalize hP : printL (rs.take i) = P at *
    refine Ev.step (f := fun k => strataref17_Print.l0 (k + 1) (rs.map toRef) (str P) (i : Int)) (fun k => rfl) ?_
    simp only [strataref17_Print.l0, hq, toRef, hst, e32]
    refine Ev.congr (fun k => (if_pos (by rw [List.length_map]; omega)).trans (if_pos (by omega))) ?_
    refine Ev.bind (digits_ev x.f0 hok.cmd) ?_
    simp only [str_add, str_size, List.length_append, List.length_singleton]
    refine Ev.congr (fun k => (if_pos (by omega)).trans (if_pos (by omega))) ?_
    refine Ev.bind (head_ev x.f1 x.f2 hok.who) ?_
    simp only [str_add, str_size, List.length_append, List.length_singleton]
    refine Ev.congr (fun k => (if_pos (by omega)).trans (if_pos (by omega))) ?_
    refine Ev.bind (code_ev x.f3 hok.code) ?_
    simp only [str_add, str_size, List.length_append, List.length_singleton]
    refine Ev.congr (fun k => if_pos (by omega)) ?_
    have hi9 : i < 1000000000 := by omega
    by_cases c1 : x.f1 = 1
    · rw [if_pos c1] at hm ih1
      refine Ev.congr (fun k => if_pos c1) ?_
      refine Ev.bind (result_ev x.f0 x.f1 x.f2 x.f3 x.f4.f0 x.f4.f3 x.f4.f5 st x.f4.f1 x.f4.f2 x.f5 hres (by omega)) ?_
      simp only [str_add, str_size, List.length_append, List.length_singleton]
      refine Ev.congr (fun k => if_pos (by omega)) ?_
      rw [succ_ok i hi9]
      simpa [repHead, List.append_assoc] using ih1
    · rw [if_neg c1] at hm ih1
      simp only [List.length_append, List.length_singleton] at hm
      refine Ev.congr (fun k => if_neg c1) ?_
      have h2 := pl1_ev (rs.map toRef) (str (printL rs)) i hi9 x.f0 x.f1 x.f2 x.f3 x.f4.f0 x.f4.f1 x.f4.f2 x.f4.f3 (st : Int) x.f4.f5 x.f5 hok.nl hok.nq (P ++ Lib.itoa x.f0 ++ [32] ++ headW x.f1 x.f2 ++ [32] ++ codeL x.f3) (by simp only [List.length_append, List.length_cons, List.length_nil]; omega) (by simpa [repHead, List.append_assoc] using ih1) x.f5.length 0 (by omega)
      simpa [numsL, List.append_assoc] using h2
theorem print_ev (rs : List S32) (hO : okAll rs) : Ev (fun k => strataref17_Print.f k (rs.map toRef)) (str (printL rs)) :=
  pl0_ev rs hO rs.length 0 (by omega)
end Go.Proofs.YtggbhdcgfnjogaaDoor.PrintLaw
