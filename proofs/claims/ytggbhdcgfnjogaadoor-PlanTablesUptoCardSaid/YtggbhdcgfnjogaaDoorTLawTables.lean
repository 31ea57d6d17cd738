import Derived.Test.YtggbhdcgfnjogaaDoorTLawDec
set_option linter.unusedVariables false
namespace Go.Proofs.YtggbhdcgfnjogaaDoor.PlanLaw
open Go.RowKit Go.Proofs.YtggbhdcgfnjogaaDoor.PPl Go.Proofs.YtggbhdcgfnjogaaDoorW.PrintWords Go.Proofs.YtggbhdcgfnjogaaDoorW.PrintLast Go.Proofs.YtggbhdcgfnjogaaDoorW.PrintMore
theorem same_tab (nm : ByteArray) (num : Int) (cols : List S87) (key : List Int) (hc : cols.length ≤ 1000000000) (hk : key.length ≤ 1000000000) : Ev (fun k => stratalaw16_sameTable.f k nm num cols key nm num cols key) true := by
 have l1 : ∀ d i : Nat, i + d = key.length → Ev (fun k => stratalaw16_sameTable.l1 k (i : Int) nm num cols key nm num cols key) true := by
  intro d
  induction d with
  | zero =>
   intro i hi
   refine Ev.step (f := fun _ => some true) (fun k => ?_) (Ev.now _)
   simp only [stratalaw16_sameTable.l1]
   rw [if_neg (by omega)]
  | succ d ih =>
   intro i hi
   refine Ev.step (fun k => ?_) (ih (i + 1) (by omega))
   simp only [stratalaw16_sameTable.l1]
   rw [if_pos (by omega), if_pos (by omega), if_pos (by omega), wrap_ok (by omega) (by omega)]
   simp
 have l0 : ∀ d i : Nat, i + d = cols.length → Ev (fun k => stratalaw16_sameTable.l0 k (i : Int) nm num cols key nm num cols key) true := by
  intro d
  induction d with
  | zero =>
   intro i hi
   refine Ev.step (fun k => ?_) (l1 key.length 0 (by omega))
   simp only [stratalaw16_sameTable.l0]
   rw [if_neg (by omega)]
   rfl
  | succ d ih =>
   intro i hi
   refine Ev.step (fun k => ?_) (ih (i + 1) (by omega))
   simp only [stratalaw16_sameTable.l0]
   rw [if_pos (by omega), if_pos (by omega), if_pos (by omega), if_neg (by simp), wrap_ok (by omega) (by omega)]
   rfl
 unfold stratalaw16_sameTable.f
 refine Ev.congr (f := fun k => stratalaw16_sameTable.j0 k false nm num cols key nm num cols key) (fun k => ?_) (Ev.step (fun k => ?_) (l0 cols.length 0 (by omega)))
 · rw [if_pos rfl, if_pos rfl, if_pos rfl]
   simp
 · simp only [stratalaw16_sameTable.j0]
   rw [if_neg (by simp)]
   rfl
theorem tables (nm : ByteArray) (num : Int) (cols : List S87) (key : List Int) (hc : ∀ c ∈ cols, c.f0.size ≤ 1000000000) (hk : ∀ x ∈ key, -9223372036854775808 ≤ x ∧ x ≤ 9223372036854775807) (hn : num ≤ 9223372036854775807) :
 ∃ k, stratalaw16_PlanTables.f k nm num cols key = some true := by
 refine Ev.rounds ?_
 unfold stratalaw16_PlanTables.f
 refine Ev.bind (prog_enc nm num cols key hc hk hn) (Ev.bind (ref_enc nm num cols key hn) ?_)
 refine Ev.congr (f := fun k => stratalaw16_PlanTables.j0 k (encR nm num cols key).2.2 false nm num cols key (encR nm num cols key).1 (encR nm num cols key).2.1) (fun k => ?_) ?_
 · rw [if_neg (by simp)]
   unfold stratalaw16_num.f
   simp
 by_cases hz : (encR nm num cols key).2.2 = 0
 · have he : encR nm num cols key = ((encR nm num cols key).1, (encR nm num cols key).2.1, 0) := by rw [← hz]
   obtain ⟨ht, h5, e0, e1⟩ := enc_inv he
   unfold isTab lens at ht
   simp only [Bool.and_eq_true, decide_eq_true_eq] at ht
   obtain ⟨⟨_, hn2, hn1, _, hc16, _, hk8⟩, hcols, hkeys, hdup1, hdup2⟩ := ht
   have hd := dec_ev (encR nm num cols key).1 (encR nm num cols key).2.1 (by rw [e0, strOfNums_size]; simp only [catB, escI_all]; have := escL_len nm.data.toList; rw [data_length] at this; simp; omega) (by rw [e1, strOfNums_size]; omega)
   rw [decR_back hn he] at hd
   refine Ev.step (f := fun k => (plan_DecodeTable.f k (encR nm num cols key).1 (encR nm num cols key).2.1).bind fun bt414 => ((stratalaw16_sameTable.f k nm num cols key bt414.1 bt414.2.1 bt414.2.2.1 bt414.2.2.2.1).bind fun t424 => (if t424 = true then ((stratalaw16_num.f bt414.2.2.2.2).bind fun t425 => (some (t425 == 0))) else (some false)))) (fun k => ?_) (Ev.bind hd (Ev.bind (same_tab nm num cols key (by omega) (by omega)) (Ev.congr (fun k => ?_) (Ev.now true))))
   · simp only [stratalaw16_PlanTables.j0]
     rw [if_neg (by simp), if_pos hz]
   · rw [if_pos rfl]
     rfl
 · refine Ev.step (f := fun _ => some true) (fun k => ?_) (Ev.now _)
   simp only [stratalaw16_PlanTables.j0]
   rw [if_neg (by simp), if_neg hz]
end Go.Proofs.YtggbhdcgfnjogaaDoor.PlanLaw

