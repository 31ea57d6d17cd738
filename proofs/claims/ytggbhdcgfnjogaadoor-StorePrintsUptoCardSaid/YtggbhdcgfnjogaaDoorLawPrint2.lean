/- What the document's result writes is what the program's printResult writes (resL). -/
import Derived.Test.YtggbhdcgfnjogaaDoorLawPrint
import Derived.Test.YtggbhdcgfnjogaaDoorPSpx5
set_option linter.unusedVariables false
namespace Go.Proofs.YtggbhdcgfnjogaaDoor.PrintLaw
open Go.RowKit Go.Proofs.YtggbhdcgfnjogaaDoor.PSp Go.Proofs.YtggbhdcgfnjogaaDoorW.PrintWords Go.Proofs.YtggbhdcgfnjogaaDoorW.PrintLast

theorem succ_ok (i : Nat) (h : i < 1000000000) : wrap64 ((i : Int) + 1) = ((i + 1 : Nat) : Int) := by
  rw [wrap_ok (by omega) (by omega)]; rfl
theorem l2_ev (c cn st en : Int) (ns : List ByteArray) (rs : List (List S84)) (X : ByteArray) (i : Nat) (hi : i < rs.length) (hr9 : rs.length ≤ 1000000000) (r : List S84) (hrr : rs[i] = r) (hrl : r.length ≤ 1000000000) (hv : ∀ v ∈ r, okVal v) (S : List UInt8) (hS : S.length + (joinL valueL r).length + 1 ≤ 140737488355328)
    (hc : Ev (fun k => strataref17_result.l1 k (str (S ++ joinL valueL r ++ [10])) ((i + 1 : Nat) : Int) c ns rs cn st en) X) :
    ∀ (d j : Nat), j + d = r.length → Ev (fun k => strataref17_result.l2 k (str (S ++ joinL valueL (r.take j))) (i : Int) (j : Int) c ns rs cn st en) X := by
  have hR : rd_L4 rs (i : Int) = r := (rdL_lt rs i hi).trans hrr
  intro d
  induction d with
  | zero =>
    intro j hj
    have e : r.take j = r := List.take_of_length_le (by omega)
    rw [e]
    refine Ev.step (fun k => ?_) hc
    show strataref17_result.l2 (k + 1) _ _ _ _ _ _ _ _ _ = _
    rw [strataref17_result.l2, hR, if_pos (by omega), if_pos (by omega), if_neg (by omega), str_size, List.length_append, if_pos (by omega), succ_ok i (by omega)]
    exact congrArg (fun s => strataref17_result.l1 k s ((i + 1 : Nat) : Int) c ns rs cn st en) (str_add _ [10])
  | succ d ih =>
    intro j hj
    have hjl : j < r.length := by omega
    have hX := joinL_one valueL r j hjl _ rfl
    have hn := joinL_len valueL r (j + 1)
    have ih1 := ih (j + 1) (by omega)
    rw [hX] at hn ih1
    have hw := word_ev r[j] (hv _ (List.getElem_mem hjl))
    by_cases h0 : 0 < j
    · rw [if_pos h0] at hn ih1
      simp only [List.length_append, List.length_cons, List.length_nil] at hn
      refine Ev.step (f := fun k => (strataref17_word.f k r[j].f0 r[j].f1 r[j].f2).bind fun t => if (str (S ++ joinL valueL (r.take j)) ++ (⟨#[44, 32]⟩ : ByteArray)).size + t.size ≤ 9223372036854775807 then strataref17_result.l2 k ((str (S ++ joinL valueL (r.take j)) ++ (⟨#[44, 32]⟩ : ByteArray)) ++ t) (i : Int) ((j + 1 : Nat) : Int) c ns rs cn st en else none) (fun k => ?_) (Ev.bind hw ?_)
      · show strataref17_result.l2 (k + 1) _ _ _ _ _ _ _ _ _ = _
        rw [strataref17_result.l2, hR, if_pos (by omega), if_pos (by omega), if_pos (by omega), if_pos (by omega), str_size, List.length_append, if_pos (by omega), if_pos (by omega), rdT_lt r j hjl, succ_ok j (by omega)]
      · have e1 : str (S ++ joinL valueL (r.take j)) ++ (⟨#[44, 32]⟩ : ByteArray) = str (S ++ joinL valueL (r.take j) ++ [44, 32]) := str_add _ [44, 32]
        rw [e1, str_size, str_size, str_add]
        refine Ev.congr (fun k => if_pos (by simp only [List.length_append, List.length_cons, List.length_nil]; omega)) ?_
        simpa [List.append_assoc] using ih1
    · rw [if_neg h0, List.append_nil] at hn ih1
      simp only [List.length_append] at hn
      refine Ev.step (f := fun k => (strataref17_word.f k r[j].f0 r[j].f1 r[j].f2).bind fun t => if (str (S ++ joinL valueL (r.take j))).size + t.size ≤ 9223372036854775807 then strataref17_result.l2 k (str (S ++ joinL valueL (r.take j)) ++ t) (i : Int) ((j + 1 : Nat) : Int) c ns rs cn st en else none) (fun k => ?_) (Ev.bind hw ?_)
      · show strataref17_result.l2 (k + 1) _ _ _ _ _ _ _ _ _ = _
        rw [strataref17_result.l2, hR, if_pos (by omega), if_pos (by omega), if_pos (by omega), if_neg (by omega), if_pos (by omega), rdT_lt r j hjl, succ_ok j (by omega)]
      · rw [str_size, str_size, str_add]
        refine Ev.congr (fun k => if_pos (by simp only [List.length_append]; omega)) ?_
        simpa [List.append_assoc] using ih1
theorem l1_ev (c cn st en : Int) (ns : List ByteArray) (rs : List (List S84)) (hr9 : rs.length ≤ 1000000000) (hv : ∀ r ∈ rs, r.length ≤ 1000000000 ∧ ∀ v ∈ r, okVal v) (S : List UInt8) (hS : S.length + (tabL rs).length ≤ 140737488355328) :
    ∀ (d i : Nat), i + d = rs.length → Ev (fun k => strataref17_result.l1 k (str (S ++ tabL (rs.take i))) (i : Int) c ns rs cn st en) (str (S ++ tabL rs)) := by
  intro d
  induction d with
  | zero =>
    intro i hi
    have e : rs.take i = rs := List.take_of_length_le (by omega)
    rw [e]
    refine Ev.step (f := fun _ => some (str (S ++ tabL rs))) (fun k => ?_) (Ev.now _)
    show strataref17_result.l1 (k + 1) _ _ _ _ _ _ _ _ = _
    rw [strataref17_result.l1, if_neg (by omega)]
  | succ d ih =>
    intro i hi
    have hil : i < rs.length := by omega
    have hX := tab_take rs i hil _ rfl
    have hn := tab_len rs (i + 1)
    have ih1 := ih (i + 1) (by omega)
    rw [hX] at hn ih1
    have hm := hv _ (List.getElem_mem hil)
    simp only [lineL, List.length_append, List.length_cons, List.length_nil] at hn
    have h2 := l2_ev c cn st en ns rs (str (S ++ tabL rs)) i hil hr9 rs[i] rfl hm.1 hm.2 (S ++ tabL (rs.take i) ++ [32, 32]) (by simp only [List.length_append, List.length_cons, List.length_nil]; omega) (by simpa [lineL, List.append_assoc] using ih1) rs[i].length 0 (by omega)
    refine Ev.step (fun k => ?_) h2
    show strataref17_result.l1 (k + 1) _ _ _ _ _ _ _ _ = _
    rw [strataref17_result.l1, if_pos (by omega), str_size, List.length_append, if_pos (by omega)]
    refine congrArg (fun s => strataref17_result.l2 k s (i : Int) 0 c ns rs cn st en) ?_
    rw [List.take_zero]
    show _ = str (S ++ tabL (rs.take i) ++ [32, 32] ++ [])
    rw [List.append_nil]
    exact str_add _ [32, 32]
theorem rdOf_lt (l : List ByteArray) (k : Nat) (h : k < l.length) : rdOf ByteArray.empty l (k : Int) = l[k] := by
  simp [rdOf, List.getD_eq_getElem?_getD, h]
theorem l0_ev (c cn st en : Int) (ns : List ByteArray) (rs : List (List S84)) (hn9 : ns.length ≤ 1000000000) (hq : ∀ s ∈ ns, s.size ≤ 1000000000) (hr9 : rs.length ≤ 1000000000) (hv : ∀ r ∈ rs, r.length ≤ 1000000000 ∧ ∀ v ∈ r, okVal v) (S : List UInt8) (hS : S.length + (joinL (fun s : ByteArray => quoteL s.data.toList) ns).length + 1 + (tabL rs).length ≤ 140737488355328) :
    ∀ (d j : Nat), j + d = ns.length → Ev (fun k => strataref17_result.l0 k (str (S ++ joinL (fun s : ByteArray => quoteL s.data.toList) (ns.take j))) (j : Int) c ns rs cn st en) (str (S ++ joinL (fun s : ByteArray => quoteL s.data.toList) ns ++ [10] ++ tabL rs)) := by
  intro d
  induction d with
  | zero =>
    intro j hj
    have e : ns.take j = ns := List.take_of_length_le (by omega)
    rw [e]
    have h1 := l1_ev c cn st en ns rs hr9 hv (S ++ joinL (fun s : ByteArray => quoteL s.data.toList) ns ++ [10]) (by simp only [List.length_append, List.length_cons, List.length_nil]; omega) rs.length 0 (by omega)
    refine Ev.step (fun k => ?_) h1
    show strataref17_result.l0 (k + 1) _ _ _ _ _ _ _ _ = _
    rw [strataref17_result.l0, if_neg (by omega), str_size, List.length_append, if_pos (by omega)]
    refine congrArg (fun s => strataref17_result.l1 k s 0 c ns rs cn st en) ?_
    show _ = str (S ++ joinL (fun s : ByteArray => quoteL s.data.toList) ns ++ [10] ++ [])
    rw [List.append_nil]
    exact str_add _ [10]
  | succ d ih =>
    intro j hj
    have hjl : j < ns.length := by omega
    have hX := joinL_one (fun s : ByteArray => quoteL s.data.toList) ns j hjl _ rfl
    have hn := joinL_len (fun s : ByteArray => quoteL s.data.toList) ns (j + 1)
    have ih1 := ih (j + 1) (by omega)
    rw [hX] at hn ih1
    have hw : Ev (fun _ => strataref17_quoted.f ns[j]) (str (quoteL ns[j].data.toList)) := Ev.congr (fun _ => quoted_ev ns[j] (hq _ (List.getElem_mem hjl))) (Ev.now _)
    by_cases h0 : 0 < j
    · rw [if_pos h0] at hn ih1
      simp only [List.length_append, List.length_cons, List.length_nil] at hn
      refine Ev.step (f := fun k => (strataref17_quoted.f ns[j]).bind fun t => if (str (S ++ joinL (fun s : ByteArray => quoteL s.data.toList) (ns.take j)) ++ (⟨#[44, 32]⟩ : ByteArray)).size + t.size ≤ 9223372036854775807 then strataref17_result.l0 k ((str (S ++ joinL (fun s : ByteArray => quoteL s.data.toList) (ns.take j)) ++ (⟨#[44, 32]⟩ : ByteArray)) ++ t) ((j + 1 : Nat) : Int) c ns rs cn st en else none) (fun k => ?_) (Ev.bind hw ?_)
      · show strataref17_result.l0 (k + 1) _ _ _ _ _ _ _ _ = _
        rw [strataref17_result.l0, if_pos (by omega), if_pos (by omega), str_size, List.length_append, if_pos (by omega), if_pos (by omega), rdOf_lt ns j hjl, succ_ok j (by omega)]
      · have e1 : str (S ++ joinL (fun s : ByteArray => quoteL s.data.toList) (ns.take j)) ++ (⟨#[44, 32]⟩ : ByteArray) = str (S ++ joinL (fun s : ByteArray => quoteL s.data.toList) (ns.take j) ++ [44, 32]) := str_add _ [44, 32]
        rw [e1, str_size, str_size, str_add]
        refine Ev.congr (fun k => if_pos (by simp only [List.length_append, List.length_cons, List.length_nil]; omega)) ?_
        simpa [List.append_assoc] using ih1
    · rw [if_neg h0, List.append_nil] at hn ih1
      simp only [List.length_append] at hn
      refine Ev.step (f := fun k => (strataref17_quoted.f ns[j]).bind fun t => if (str (S ++ joinL (fun s : ByteArray => quoteL s.data.toList) (ns.take j))).size + t.size ≤ 9223372036854775807 then strataref17_result.l0 k (str (S ++ joinL (fun s : ByteArray => quoteL s.data.toList) (ns.take j)) ++ t) ((j + 1 : Nat) : Int) c ns rs cn st en else none) (fun k => ?_) (Ev.bind hw ?_)
      · show strataref17_result.l0 (k + 1) _ _ _ _ _ _ _ _ = _
        rw [strataref17_result.l0, if_pos (by omega), if_neg (by omega), if_pos (by omega), rdOf_lt ns j hjl, succ_ok j (by omega)]
      · rw [str_size, str_size, str_add]
        refine Ev.congr (fun k => if_pos (by simp only [List.length_append]; omega)) ?_
        simpa [List.append_assoc] using ih1
theorem j3_ev (c cn en : Int) (st : Nat) (ns : List ByteArray) (rs : List (List S84)) (hO : okRes cn st ns rs) (S : List UInt8) (hS : S.length + 1 + (if ns = [] then [] else namesL ns ++ tabL rs).length ≤ 140737488355328) :
    Ev (fun k => strataref17_result.j3 k (str S) c ns rs cn (st : Int) en) (str (S ++ [10] ++ (if ns = [] then [] else namesL ns ++ tabL rs))) := by
  have e1 : str S ++ (⟨#[10]⟩ : ByteArray) = str (S ++ [10]) := str_add S [10]
  by_cases h0 : ns = []
  · rw [if_pos h0] at hS ⊢
    refine Ev.step (f := fun _ => some (str (S ++ [10] ++ []))) (fun k => ?_) (Ev.now _)
    show strataref17_result.j3 (k + 1) _ _ _ _ _ _ _ = _
    rw [strataref17_result.j3, str_size, if_pos (by omega), if_pos (by rw [h0]; rfl), e1, List.append_nil]
  · rw [if_neg h0] at hS ⊢
    have hl : ns.length ≠ 0 := fun e => h0 (List.length_eq_zero_iff.1 e)
    simp only [namesL, lineL, List.length_append, List.length_cons, List.length_nil] at hS
    have h2 := l0_ev c cn (st : Int) en ns rs hO.nl hO.nq hO.rl hO.rq (S ++ [10] ++ [124, 32]) (by simp only [List.length_append, List.length_cons, List.length_nil]; omega) ns.length 0 (by omega)
    have e3 : S ++ [10] ++ (namesL ns ++ tabL rs) = S ++ [10] ++ [124, 32] ++ joinL (fun s : ByteArray => quoteL s.data.toList) ns ++ [10] ++ tabL rs := by simp only [namesL, lineL, List.append_assoc]
    rw [e3]
    refine Ev.step (fun k => ?_) h2
    show strataref17_result.j3 (k + 1) _ _ _ _ _ _ _ = _
    rw [strataref17_result.j3, str_size, if_pos (by omega), if_neg (by omega), e1, str_size, List.length_append, List.length_singleton, if_pos (by omega)]
    refine congrArg (fun s => strataref17_result.l0 k s 0 c ns rs cn (st : Int) en) ?_
    show _ = str (S ++ [10] ++ [124, 32] ++ [])
    rw [List.append_nil]
    exact str_add _ [124, 32]
theorem j1_ev (c cn en : Int) (st : Nat) (ns : List ByteArray) (rs : List (List S84)) (hO : okRes cn st ns rs) (S : List UInt8) (hS : S.length + (endL en).length + 1 + (if ns = [] then [] else namesL ns ++ tabL rs).length ≤ 140737488355328) :
    Ev (fun k => strataref17_result.j1 k (str S) c ns rs cn (st : Int) en) (str (S ++ endL en ++ [10] ++ (if ns = [] then [] else namesL ns ++ tabL rs))) := by
  have h3 := j3_ev c cn en st ns rs hO (S ++ endL en) (by rw [List.length_append]; omega)
  unfold endL at *
  by_cases c1 : en = 1
  · rw [if_pos c1] at h3 hS ⊢
    simp only [List.length_cons, List.length_nil] at hS
    refine Ev.step (f := fun k => strataref17_result.j2 k (str (S ++ [32, 99, 111, 109, 109, 105, 116])) c ns rs cn (st : Int) en) (fun k => ?_) (Ev.step (fun k => ?_) h3)
    · show strataref17_result.j1 (k + 1) _ _ _ _ _ _ _ = _
      rw [strataref17_result.j1, if_pos c1, str_size, if_pos (by omega)]
      exact congrArg (fun s => strataref17_result.j2 k s c ns rs cn (st : Int) en) (str_add S [32, 99, 111, 109, 109, 105, 116])
    · show strataref17_result.j2 (k + 1) _ _ _ _ _ _ _ = _
      rw [strataref17_result.j2, if_neg (by omega)]
  · rw [if_neg c1] at h3 hS ⊢
    refine Ev.step (f := fun k => strataref17_result.j2 k (str S) c ns rs cn (st : Int) en) (fun k => ?_) (Ev.step (fun k => ?_) h3)
    · show strataref17_result.j1 (k + 1) _ _ _ _ _ _ _ = _
      rw [strataref17_result.j1, if_neg c1]
    · show strataref17_result.j2 (k + 1) _ _ _ _ _ _ _ = _
      by_cases c2 : en = 2
      · rw [if_pos c2] at hS ⊢
        simp only [List.length_cons, List.length_nil] at hS
        rw [strataref17_result.j2, if_pos c2, str_size, if_pos (by omega)]
        exact congrArg (fun s => strataref17_result.j3 k s c ns rs cn (st : Int) en) (str_add S [32, 97, 98, 111, 114, 116])
      · rw [if_neg c2, List.append_nil]
        rw [strataref17_result.j2, if_neg c2]
theorem j0_ev (c cn en : Int) (st : Nat) (ns : List ByteArray) (rs : List (List S84)) (hO : okRes cn st ns rs) (S : List UInt8) (hS : S.length + (stpL st).length + (endL en).length + 1 + (if ns = [] then [] else namesL ns ++ tabL rs).length ≤ 140737488355328) :
    Ev (fun k => strataref17_result.j0 k (str S) c ns rs cn (st : Int) en) (str (S ++ stpL st ++ endL en ++ [10] ++ (if ns = [] then [] else namesL ns ++ tabL rs))) := by
  have h3 := j1_ev c cn en st ns rs hO (S ++ stpL st) (by rw [List.length_append]; omega)
  by_cases c0 : st = 0
  · refine Ev.step (fun k => ?_) h3
    show strataref17_result.j0 (k + 1) _ _ _ _ _ _ _ = _
    rw [strataref17_result.j0, if_pos (by omega)]
    unfold stpL
    rw [if_pos c0, List.append_nil]
  · have e0 : stpL st = [32, 115, 116, 97, 109, 112, 32] ++ Lib.decDigits st := if_neg c0
    rw [e0] at h3 hS ⊢
    simp only [List.length_append, List.length_cons, List.length_nil] at hS
    have e1 : str S ++ (⟨#[32, 115, 116, 97, 109, 112, 32]⟩ : ByteArray) = str (S ++ [32, 115, 116, 97, 109, 112, 32]) := str_add S [32, 115, 116, 97, 109, 112, 32]
    refine Ev.step (f := fun k => (strataref17_stamp.f k (st : Int)).bind fun t => if (str S ++ (⟨#[32, 115, 116, 97, 109, 112, 32]⟩ : ByteArray)).size + t.size ≤ 9223372036854775807 then strataref17_result.j1 k ((str S ++ (⟨#[32, 115, 116, 97, 109, 112, 32]⟩ : ByteArray)) ++ t) c ns rs cn (st : Int) en else none) (fun k => ?_) (Ev.bind (stamp_ev (st + 1) st (by omega) hO.st) ?_)
    · show strataref17_result.j0 (k + 1) _ _ _ _ _ _ _ = _
      rw [strataref17_result.j0, if_neg (by omega), str_size, if_pos (by omega)]
    · rw [e1, str_size, str_size, str_add]
      refine Ev.congr (fun k => if_pos (by simp only [List.length_append, List.length_cons, List.length_nil]; omega)) ?_
      rw [List.append_assoc]
      exact h3
theorem result_ev (cmd kind who code c cn en : Int) (st : Nat) (ns : List ByteArray) (rs : List (List S84)) (nums : List Int) (hO : okRes cn st ns rs) (hS : (resL cn st en ns rs).length ≤ 140737488355328) :
    Ev (fun k => strataref17_result.f k cmd kind who code c ns rs cn (st : Int) en nums) (str (resL cn st en ns rs)) := by
  have e : resL cn st en ns rs = cntL cn ++ stpL st ++ endL en ++ [10] ++ (if ns = [] then [] else namesL ns ++ tabL rs) := rfl
  rw [e] at hS ⊢
  simp only [List.length_append, List.length_cons, List.length_nil] at hS
  have h3 := j0_ev c cn en st ns rs hO (cntL cn) (by split at hS <;> rename_i hz <;> first | (rw [if_pos hz]; simpa using hS) | (rw [if_neg hz, List.length_append]; simp only [List.length_append] at hS; omega))
  by_cases c0 : cn = 0
  · refine Ev.congr (fun k => ?_) h3
    unfold strataref17_result.f cntL
    rw [if_pos c0, if_pos c0]
  · have e0 : cntL cn = [32, 99, 111, 117, 110, 116, 32] ++ Lib.itoa cn := if_neg c0
    rw [e0] at h3 ⊢
    have l1 := itoa_le cn hO.cn
    refine Ev.congr (f := fun k => (strataref17_digits.f k cn).bind fun t => if 7 + t.size ≤ 9223372036854775807 then strataref17_result.j0 k (((⟨#[]⟩ : ByteArray) ++ (⟨#[32, 99, 111, 117, 110, 116, 32]⟩ : ByteArray)) ++ t) c ns rs cn (st : Int) en else none) (fun k => ?_) (Ev.bind (digits_ev cn hO.cn) ?_)
    · unfold strataref17_result.f
      rw [if_neg c0, if_pos (by omega)]
    · have e1 : ((⟨#[]⟩ : ByteArray) ++ (⟨#[32, 99, 111, 117, 110, 116, 32]⟩ : ByteArray)) ++ str (Lib.itoa cn) = str ([32, 99, 111, 117, 110, 116, 32] ++ Lib.itoa cn) := (congrArg (· ++ str (Lib.itoa cn)) (str_add [] [32, 99, 111, 117, 110, 116, 32])).trans (str_add _ _)
      rw [str_size, e1]
      exact Ev.congr (fun k => if_pos (by omega)) h3
end Go.Proofs.YtggbhdcgfnjogaaDoor.PrintLaw
