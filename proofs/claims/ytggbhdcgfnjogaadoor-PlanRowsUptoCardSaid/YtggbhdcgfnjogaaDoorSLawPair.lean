import Derived.Test.YtggbhdcgfnjogaaDoorSLawVals
import Derived.Test.YtggbhdcgfnjogaaDoorSPPlx14
set_option linter.unusedVariables false
namespace Go.Proofs.YtggbhdcgfnjogaaDoor.PlanLaw
open Go.RowKit Go.Proofs.YtggbhdcgfnjogaaDoor.PPl Go.Proofs.YtggbhdcgfnjogaaDoorW.PrintWords Go.Proofs.YtggbhdcgfnjogaaDoorW.PrintLast
def wrongOf (v : S84) (c : S87) : Int := if fault v = 0 then (if v.f0 = 0 then (if c.f2 = true then 166 else 0) else if v.f0 = c.f1 then 0 else 163) else fault v
theorem one_fault (v : S84) : faultsOf [v] = fault v := by
 unfold faultsOf
 rw [if_neg (by simp), flt]
 by_cases h : fault v = 0
 · rw [if_pos h, h]; rfl
 · rw [if_neg h]
theorem fits_is (v : S84) (c : S87) (hv : InR v) : Ev (fun k => plan_fits.f k v.f0 v.f1 v.f2 c.f0 c.f1 c.f2) (wrongOf v c) := by
 have hr := row_prog [v] (by simpa using hv)
 unfold plan_fits.f wrongOf
 refine Ev.bind hr ?_
 have e2 : (rowR [v]).2 = fault v := by
  unfold rowR
  rw [one_fault]
  by_cases h : fault v = 0
  · rw [if_pos h, h]
  · rw [if_neg h]
 by_cases h : fault v = 0
 · rw [if_pos h]
   by_cases h0 : v.f0 = 0
   · rw [if_pos h0]
     refine Ev.congr (f := fun k => plan_fits.j0 k c.f2 v.f0 v.f1 v.f2 c.f0 c.f1 c.f2) (fun k => by rw [e2, if_pos h, if_pos h0]) ?_
     by_cases hc : c.f2 = true
     · rw [if_pos hc]
       exact Ev.step (f := fun _ => some 166) (fun k => by simp only [plan_fits.j0]; rw [if_pos hc]) (Ev.now _)
     · rw [if_neg hc]
       exact Ev.step (f := fun _ => some 0) (fun k => by simp only [plan_fits.j0]; rw [if_neg hc, if_pos h0]) (Ev.now _)
   · rw [if_neg h0]
     refine Ev.congr (f := fun k => plan_fits.j0 k false v.f0 v.f1 v.f2 c.f0 c.f1 c.f2) (fun k => by rw [e2, if_pos h, if_neg h0]) ?_
     by_cases hc : v.f0 = c.f1
     · rw [if_pos hc]
       exact Ev.step (f := fun _ => some 0) (fun k => by simp only [plan_fits.j0]; rw [if_neg (by simp), if_neg h0, if_pos hc]) (Ev.now _)
     · rw [if_neg hc]
       exact Ev.step (f := fun _ => some 163) (fun k => by simp only [plan_fits.j0]; rw [if_neg (by simp), if_neg h0, if_neg hc]) (Ev.now _)
 · rw [if_neg h]
   exact Ev.congr (fun k => by rw [e2, if_neg h]) (Ev.now _)
theorem wrong_is (v : S84) (c : S87) (hv : InR v) : Ev (fun k => strataref16_wrong.f k v.f0 v.f1 v.f2 c.f0 c.f1 c.f2 false) (wrongOf v c) := by
 unfold strataref16_wrong.f wrongOf
 refine Ev.bind (Fault_is v hv) ?_
 by_cases h : fault v = 0
 · rw [if_pos h]
   by_cases h0 : v.f0 = 0
   · rw [if_pos h0]
     by_cases hc : c.f2 = true
     · rw [if_pos hc]
       refine Ev.congr (f := fun k => strataref16_wrong.j0 k true) (fun k => by rw [if_pos h, if_pos h0, if_pos hc]; rfl) ?_
       exact Ev.step (f := fun _ => some 166) (fun k => by simp only [strataref16_wrong.j0]; rfl) (Ev.now _)
     · rw [if_neg hc]
       refine Ev.congr (f := fun k => strataref16_wrong.j0 k false) (fun k => by rw [if_pos h, if_pos h0, if_neg hc]) ?_
       exact Ev.step (f := fun _ => some 0) (fun k => by simp only [strataref16_wrong.j0]; rfl) (Ev.now _)
   · rw [if_neg h0]
     by_cases hc : v.f0 = c.f1
     · rw [if_pos hc]
       exact Ev.congr (fun k => by rw [if_pos h, if_neg h0, if_pos hc]) (Ev.now _)
     · rw [if_neg hc]
       exact Ev.congr (fun k => by rw [if_pos h, if_neg h0, if_neg hc]) (Ev.now _)
 · rw [if_neg h]
   exact Ev.congr (fun k => by rw [if_neg h]) (Ev.now _)
def wrAll : List S84 → List S87 → Int
 | v :: l, c :: m => if wrongOf v c = 0 then wrAll l m else wrongOf v c
 | _, _ => 0
def keyL (num : Int) (key : List Int) (row : List S84) : List S84 := ⟨2, num, ⟨#[]⟩⟩ :: key.map fun x => rd_T84 row x
def noPair (e : Int) : ByteArray × ByteArray × Int := (⟨#[]⟩, ⟨#[]⟩, e)
def restR (num : Int) (key : List Int) (row : List S84) : ByteArray × ByteArray × Int :=
 if ((strOfNums ((keyL num key row).flatMap layV)).size : Int) > 160 then noPair 72 else if ((strOfNums (rowB row)).size : Int) > 512 then noPair 72 else (strOfNums ((keyL num key row).flatMap layV), strOfNums (rowB row), 0)
def pairR (nm : ByteArray) (num : Int) (cols : List S87) (key : List Int) (row : List S84) : ByteArray × ByteArray × Int :=
 if isTab nm num cols key = true then (if row.length = cols.length then (if wrAll row cols = 0 then restR num key row else noPair (wrAll row cols)) else noPair 167) else noPair 169
theorem wrAll_zero : ∀ (l : List S84) (m : List S87), l.length = m.length → wrAll l m = 0 → ∀ x ∈ l, fault x = 0 := by
 intro l
 induction l with
 | nil => intro m _ _ x hx; simp at hx
 | cons v l ih =>
  intro m hm h x hx
  cases m with
  | nil => simp at hm
  | cons c m =>
   rw [wrAll] at h
   by_cases hw : wrongOf v c = 0
   · rw [if_pos hw] at h
     rcases List.mem_cons.1 hx with rfl | hx
     · unfold wrongOf at hw
       by_cases hf : fault x = 0
       · exact hf
       · rw [if_neg hf] at hw; exact absurd hw hf
     · exact ih m (by simpa using hm) h x hx
   · rw [if_neg hw] at h; exact absurd h hw
theorem faultsOf_zero {l : List S84} (hl : l.length ≤ 16) (h : ∀ x ∈ l, fault x = 0) : faultsOf l = 0 := by
 unfold faultsOf
 rw [if_neg (by omega)]
 exact flt_zero.2 h
theorem keyL_ok (num : Int) (key : List Int) (cols : List S87) (row : List S84) (hn : 1 ≤ num) (hn2 : num ≤ 9223372036854775807) (hk : key.all (keyOK cols) = true) (hl : row.length = cols.length) (hx : ∀ x ∈ row, InR x) (hf : ∀ x ∈ row, fault x = 0) (hkl : key.length ≤ 8) :
 (∀ x ∈ keyL num key row, InR x) ∧ faultsOf (keyL num key row) = 0 := by
 have hmem : ∀ x ∈ keyL num key row, x = ⟨2, num, ⟨#[]⟩⟩ ∨ x ∈ row := by
  intro x hm
  unfold keyL at hm
  rcases List.mem_cons.1 hm with rfl | hm
  · exact Or.inl rfl
  · obtain ⟨y, hy, rfl⟩ := List.mem_map.1 hm
    have := List.all_eq_true.1 hk y hy
    unfold keyOK at this
    rw [Bool.and_eq_true] at this
    obtain ⟨h0, h1⟩ := of_decide_eq_true this.1
    obtain ⟨n, rfl⟩ := Int.eq_ofNat_of_zero_le h0
    rw [show ((n : Nat) : Int) = (n : Int) from rfl, rd84_at row n (by omega)]
    exact Or.inr (List.getElem_mem _)
 have hv2 : InR ⟨2, num, ⟨#[]⟩⟩ := ⟨by simp only; omega, hn2⟩
 refine ⟨fun x hm => ?_, faultsOf_zero (by simp [keyL]; omega) (fun x hm => ?_)⟩
 · rcases hmem x hm with rfl | h
   · exact hv2
   · exact hx x h
 · rcases hmem x hm with rfl | h
   · rw [fault_kind _ hv2]; rfl
   · exact hf x h
theorem prog_pair_l1 (num : Int) (key : List Int) (cols : List S87) (row : List S84) (hk : key.all (keyOK cols) = true) (hl : row.length = cols.length) (hkl : key.length ≤ 8)
 (hK : Ev (fun k => bits_Key.f k (keyL num key row)) (strOfNums ((keyL num key row).flatMap layV), 0)) (hR : Ev (fun k => bits_Row.f k row) (strOfNums (rowB row), 0)) :
 ∀ (d i : Nat), i + d = key.length → Ev (fun k => plan_RowPair.l1 k row (⟨2, num, ⟨#[]⟩⟩ :: (key.take i).map fun x => rd_T84 row x) key (key.length : Int) (i : Int)) (restR num key row) := by
 intro d
 induction d with
 | zero =>
  intro i hi
  refine Ev.step (f := fun k => (bits_Key.f k (keyL num key row)).bind fun bt144 => ((bits_Row.f k row).bind fun bt146 => (if bt144.2 = 0 then (if bt146.2 = 0 then (if (bt144.1.size : Int) > 160 then (some ((⟨#[]⟩ : ByteArray), (⟨#[]⟩ : ByteArray), 72)) else (if (bt146.1.size : Int) > 512 then (some ((⟨#[]⟩ : ByteArray), (⟨#[]⟩ : ByteArray), 72)) else (some (bt144.1, bt146.1, 0)))) else (some ((⟨#[]⟩ : ByteArray), (⟨#[]⟩ : ByteArray), 72))) else (some ((⟨#[]⟩ : ByteArray), (⟨#[]⟩ : ByteArray), 72))))) (fun k => ?_) (Ev.bind hK (Ev.bind hR (Ev.congr (fun k => ?_) (Ev.now _))))
  · simp only [plan_RowPair.l1]
    rw [if_neg (by omega), List.take_of_length_le (by omega)]
    rfl
  · unfold restR noPair
    rw [if_pos rfl, if_pos rfl]
    split
    · rfl
    · split <;> rfl
 | succ d ih =>
  intro i hi
  have hlt : i < key.length := by omega
  have hkey := List.all_eq_true.1 hk _ (List.getElem_mem hlt)
  unfold keyOK at hkey
  rw [Bool.and_eq_true] at hkey
  obtain ⟨h0, h1⟩ := of_decide_eq_true hkey.1
  have hih := ih (i + 1) (by omega)
  rw [List.take_succ_eq_append_getElem hlt, List.map_append, List.map_singleton, ← List.cons_append] at hih
  refine Ev.step (fun k => ?_) hih
  simp only [plan_RowPair.l1]
  rw [if_pos (by omega), if_pos (by omega), if_pos (by omega), rd_at key i hlt, if_pos h0, if_pos (by omega), if_pos (by simp; omega), wrap_succ hlt (by omega)]
theorem prog_pair_l0 (nm : ByteArray) (num : Int) (key : List Int) (cols : List S87) (row : List S84) (hl : row.length = cols.length) (hrl : row.length ≤ 16) (hx : ∀ x ∈ row, InR x) (r : ByteArray × ByteArray × Int)
 (hr : wrAll row cols = 0 → Ev (fun k => plan_RowPair.l1 k row [(⟨2, num, ⟨#[]⟩⟩ : S84)] key (key.length : Int) 0) r) :
 ∀ (d i : Nat), i + d = row.length → (wrAll row cols = 0 ↔ wrAll (row.drop i) (cols.drop i) = 0) → Ev (fun k => plan_RowPair.l0 k row row (row.length : Int) (i : Int) nm num cols key) (if wrAll (row.drop i) (cols.drop i) = 0 then r else noPair (wrAll (row.drop i) (cols.drop i))) := by
 intro d
 induction d with
 | zero =>
  intro i hi hw
  rw [List.drop_of_length_le (l := row) (by omega)] at hw ⊢
  have e : wrAll [] (cols.drop i) = 0 := rfl
  rw [if_pos e]
  refine Ev.step (fun k => ?_) (hr (hw.2 e))
  simp only [plan_RowPair.l0]
  rw [if_neg (by omega)]
  rfl
 | succ d ih =>
  intro i hi hw
  have hlt : i < row.length := by omega
  have hlt2 : i < cols.length := by omega
  have hm := hx _ (List.getElem_mem hlt)
  rw [List.drop_eq_getElem_cons hlt, List.drop_eq_getElem_cons hlt2] at hw ⊢
  have hf := fits_is row[i] cols[i] hm
  refine Ev.step (f := fun k => (plan_fits.f k row[i].f0 row[i].f1 row[i].f2 cols[i].f0 cols[i].f1 cols[i].f2).bind fun t131 => (if t131 = 0 then (plan_RowPair.l0 k row row (row.length : Int) (wrap64 ((i : Int) + 1)) nm num cols key) else (some ((⟨#[]⟩ : ByteArray), (⟨#[]⟩ : ByteArray), t131)))) (fun k => ?_) (Ev.bind hf ?_)
  · simp only [plan_RowPair.l0]
    rw [if_pos (by omega), if_pos (by omega), if_pos (by omega), if_pos (by omega), rd84_at row i hlt, rd87_at cols i hlt2]
  · by_cases h : wrongOf row[i] cols[i] = 0
    · have e : wrAll (row[i] :: row.drop (i + 1)) (cols[i] :: cols.drop (i + 1)) = wrAll (row.drop (i + 1)) (cols.drop (i + 1)) := by rw [wrAll, if_pos h]
      rw [e] at hw ⊢
      refine Ev.congr (fun k => ?_) (ih (i + 1) (by omega) hw)
      rw [if_pos h, wrap_succ hlt (by omega)]
    · have e : wrAll (row[i] :: row.drop (i + 1)) (cols[i] :: cols.drop (i + 1)) = wrongOf row[i] cols[i] := by rw [wrAll, if_neg h]
      rw [e, if_neg h]
      refine Ev.congr (fun k => ?_) (Ev.now _)
      rw [if_neg h]
      rfl
theorem prog_pair (nm : ByteArray) (num : Int) (cols : List S87) (key : List Int) (row : List S84) (hc : ∀ c ∈ cols, c.f0.size ≤ 1000000000) (hk : ∀ x ∈ key, -9223372036854775808 ≤ x ∧ x ≤ 9223372036854775807) (hn : num ≤ 9223372036854775807) (hx : ∀ x ∈ row, InR x) :
 Ev (fun k => plan_RowPair.f k nm num cols key row) (pairR nm num cols key row) := by
 unfold plan_RowPair.f pairR
 refine Ev.bind (prog_isTab nm num cols key hc hk) ?_
 cases ht : isTab nm num cols key with
 | false => exact Ev.congr (fun k => by rw [if_neg (by simp)]; rfl) (Ev.now _)
 | true =>
  rw [if_pos rfl]
  by_cases hl : row.length = cols.length
  · rw [if_pos hl]
    unfold isTab lens at ht
    simp only [Bool.and_eq_true, decide_eq_true_eq] at ht
    obtain ⟨⟨_, _, hn1, _, hc16, _, hk8⟩, hcols, hkeys, hdup1, hdup2⟩ := ht
    have h0 := prog_pair_l0 nm num key cols row hl (by omega) hx (restR num key row) (fun hw => by
     have hf := wrAll_zero row cols hl hw
     have hkl := keyL_ok num key cols row hn1 hn hkeys hl hx hf hk8
     have hK := key_prog (keyL num key row) hkl.1
     have hR := row_prog row hx
     unfold keyR at hK
     unfold rowR at hR
     rw [if_pos hkl.2] at hK
     rw [if_pos (faultsOf_zero (by omega) hf)] at hR
     exact prog_pair_l1 num key cols row hkeys hl hk8 hK hR key.length 0 (by omega)) row.length 0 (by omega) Iff.rfl
    refine Ev.congr (fun k => ?_) h0
    rw [if_pos rfl, if_pos (by omega)]
    rfl
  · rw [if_neg hl]
    refine Ev.congr (fun k => ?_) (Ev.now _)
    rw [if_pos rfl, if_neg (by omega)]
    rfl
theorem ref_pair_l1 (nm : ByteArray) (num : Int) (key : List Int) (cols : List S87) (row : List S84) (hk : key.all (keyOK cols) = true) (hl : row.length = cols.length) (hkl : key.length ≤ 8)
 (hK : Ev (fun k => strataref01_Key.f k (keyL num key row)) (strOfNums ((keyL num key row).flatMap layV), 0)) (hR : Ev (fun k => strataref01_Row.f k row) (strOfNums (rowB row), 0)) :
 ∀ (d i : Nat), i + d = key.length → Ev (fun k => strataref16_RowPair.l1 k row (⟨2, num, ⟨#[]⟩⟩ :: (key.take i).map fun x => rd_T84 row x) (i : Int) nm num cols key ⟨#[]⟩ ⟨#[]⟩) (restR num key row) := by
 intro d
 induction d with
 | zero =>
  intro i hi
  refine Ev.step (f := fun k => (strataref01_Key.f k (keyL num key row)).bind fun bt238 => ((strataref01_Row.f k row).bind fun bt240 => (if (bt238.1.size : Int) > 160 then (some ((⟨#[]⟩ : ByteArray), (⟨#[]⟩ : ByteArray), 72)) else (if (bt240.1.size : Int) > 512 then (some ((⟨#[]⟩ : ByteArray), (⟨#[]⟩ : ByteArray), 72)) else (some (bt238.1, bt240.1, 0)))))) (fun k => ?_) (Ev.bind hK (Ev.bind hR (Ev.congr (fun k => ?_) (Ev.now _))))
  · simp only [strataref16_RowPair.l1]
    rw [if_neg (by omega), List.take_of_length_le (by omega)]
    rfl
  · unfold restR noPair
    split
    · rfl
    · split <;> rfl
 | succ d ih =>
  intro i hi
  have hlt : i < key.length := by omega
  have hkey := List.all_eq_true.1 hk _ (List.getElem_mem hlt)
  unfold keyOK at hkey
  rw [Bool.and_eq_true] at hkey
  obtain ⟨h0, h1⟩ := of_decide_eq_true hkey.1
  have hih := ih (i + 1) (by omega)
  rw [List.take_succ_eq_append_getElem hlt, List.map_append, List.map_singleton, ← List.cons_append] at hih
  refine Ev.step (fun k => ?_) hih
  simp only [strataref16_RowPair.l1]
  rw [if_pos (by omega), if_pos (by omega), rd_at key i hlt, if_pos h0, if_pos (by omega), if_pos (by simp; omega), wrap_succ hlt (by omega)]
theorem ref_pair_l0 (nm : ByteArray) (num : Int) (key : List Int) (cols : List S87) (row : List S84) (hl : row.length = cols.length) (hrl : row.length ≤ 16) (hx : ∀ x ∈ row, InR x) (r : ByteArray × ByteArray × Int)
 (hr : wrAll row cols = 0 → Ev (fun k => strataref16_RowPair.l1 k row [(⟨2, num, ⟨#[]⟩⟩ : S84)] 0 nm num cols key ⟨#[]⟩ ⟨#[]⟩) r) :
 ∀ (d i : Nat), i + d = row.length → (wrAll row cols = 0 ↔ wrAll (row.drop i) (cols.drop i) = 0) → Ev (fun k => strataref16_RowPair.l0 k row (i : Int) nm num cols key ⟨#[]⟩ ⟨#[]⟩) (if wrAll (row.drop i) (cols.drop i) = 0 then r else noPair (wrAll (row.drop i) (cols.drop i))) := by
 intro d
 induction d with
 | zero =>
  intro i hi hw
  rw [List.drop_of_length_le (l := row) (by omega)] at hw ⊢
  have e : wrAll [] (cols.drop i) = 0 := rfl
  rw [if_pos e]
  refine Ev.step (fun k => ?_) (hr (hw.2 e))
  simp only [strataref16_RowPair.l0]
  rw [if_neg (by omega)]
  rfl
 | succ d ih =>
  intro i hi hw
  have hlt : i < row.length := by omega
  have hlt2 : i < cols.length := by omega
  have hm := hx _ (List.getElem_mem hlt)
  rw [List.drop_eq_getElem_cons hlt, List.drop_eq_getElem_cons hlt2] at hw ⊢
  have hf := wrong_is row[i] cols[i] hm
  refine Ev.step (f := fun k => (strataref16_wrong.f k row[i].f0 row[i].f1 row[i].f2 cols[i].f0 cols[i].f1 cols[i].f2 false).bind fun t226 => (if t226 = 0 then (strataref16_RowPair.l0 k row (wrap64 ((i : Int) + 1)) nm num cols key ⟨#[]⟩ ⟨#[]⟩) else (some ((⟨#[]⟩ : ByteArray), (⟨#[]⟩ : ByteArray), t226)))) (fun k => ?_) (Ev.bind hf ?_)
  · simp only [strataref16_RowPair.l0]
    rw [if_pos (by omega), if_pos (by omega), if_pos (by omega), rd84_at row i hlt, rd87_at cols i hlt2]
  · by_cases h : wrongOf row[i] cols[i] = 0
    · have e : wrAll (row[i] :: row.drop (i + 1)) (cols[i] :: cols.drop (i + 1)) = wrAll (row.drop (i + 1)) (cols.drop (i + 1)) := by rw [wrAll, if_pos h]
      rw [e] at hw ⊢
      refine Ev.congr (fun k => ?_) (ih (i + 1) (by omega) hw)
      rw [if_pos h, wrap_succ hlt (by omega)]
    · have e : wrAll (row[i] :: row.drop (i + 1)) (cols[i] :: cols.drop (i + 1)) = wrongOf row[i] cols[i] := by rw [wrAll, if_neg h]
      rw [e, if_neg h]
      refine Ev.congr (fun k => ?_) (Ev.now _)
      rw [if_neg h]
      rfl
theorem ref_pair (nm : ByteArray) (num : Int) (cols : List S87) (key : List Int) (row : List S84) (hn : num ≤ 9223372036854775807) (hx : ∀ x ∈ row, InR x) :
 Ev (fun k => strataref16_RowPair.f k nm num cols key row) (pairR nm num cols key row) := by
 unfold strataref16_RowPair.f pairR
 refine Ev.bind (ref_isTab nm num cols key) ?_
 cases ht : isTab nm num cols key with
 | false => exact Ev.congr (fun k => by rw [if_neg (by simp)]; rfl) (Ev.now _)
 | true =>
  rw [if_pos rfl]
  by_cases hl : row.length = cols.length
  · rw [if_pos hl]
    unfold isTab lens at ht
    simp only [Bool.and_eq_true, decide_eq_true_eq] at ht
    obtain ⟨⟨_, _, hn1, _, hc16, _, hk8⟩, hcols, hkeys, hdup1, hdup2⟩ := ht
    have h0 := ref_pair_l0 nm num key cols row hl (by omega) hx (restR num key row) (fun hw => by
     have hf := wrAll_zero row cols hl hw
     have hkl := keyL_ok num key cols row hn1 hn hkeys hl hx hf hk8
     have hK := key_ref (keyL num key row) hkl.1
     have hR := row_ref row hx
     unfold keyR at hK
     unfold rowR at hR
     rw [if_pos hkl.2] at hK
     rw [if_pos (faultsOf_zero (by omega) hf)] at hR
     exact ref_pair_l1 nm num key cols row hkeys hl hk8 hK hR key.length 0 (by omega)) row.length 0 (by omega) Iff.rfl
    refine Ev.congr (fun k => ?_) h0
    rw [if_pos rfl, if_pos (by omega)]
    rfl
  · rw [if_neg hl]
    refine Ev.congr (fun k => ?_) (Ev.now _)
    rw [if_pos rfl, if_neg (by omega)]
    rfl
end Go.Proofs.YtggbhdcgfnjogaaDoor.PlanLaw

