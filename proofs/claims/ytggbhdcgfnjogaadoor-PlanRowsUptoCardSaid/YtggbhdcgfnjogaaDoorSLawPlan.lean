import Derived.Test.YtggbhdcgfnjogaaDoorSLawRow
set_option linter.unusedVariables false
namespace Go.Proofs.YtggbhdcgfnjogaaDoor.PlanLaw
open Go.RowKit Go.Proofs.YtggbhdcgfnjogaaDoor.PPl Go.Proofs.YtggbhdcgfnjogaaDoorW.PrintWords Go.Proofs.YtggbhdcgfnjogaaDoorW.PrintLast Go.Proofs.YtggbhdcgfnjogaaDoorW.PrintMore
theorem col_inR (s : ByteArray) (kd : Int) (p n : Nat) (hn : Stops s p n) (hp : p ≤ s.size) {x : S84} {q : Nat} (h : colR s kd p n = .ok (x, q)) : InR x := by
 unfold colR at h
 by_cases h0 : kd = 0
 · rw [if_pos h0] at h; injection h with h; injection h with h _; subst h; exact ⟨by decide, by decide⟩
 rw [if_neg h0] at h
 by_cases h1 : kd = 1
 · rw [if_pos h1] at h
   by_cases hl : p < s.size
   · rw [if_pos hl] at h
     by_cases hb : bt s (p : Int) ≤ 1
     · rw [if_pos hb] at h; injection h with h; injection h with h _; subst h
       obtain ⟨b0, b1⟩ := bt_range s (p : Int)
       exact ⟨by simp only; omega, by simp only; omega⟩
     · rw [if_neg hb] at h; cases h
   · rw [if_neg hl] at h; cases h
 rw [if_neg h1] at h
 by_cases h2 : kd = 2
 · rw [if_pos h2] at h
   by_cases hh : (svAns s p n).2.2 = 0
   · rw [if_pos hh] at h
     injection h with h; injection h with h _; subst h
     unfold svAns at hh ⊢
     by_cases hu : (uvAns s p n).2.2 = 0
     · rw [if_pos hu]
       obtain ⟨q, _, _, _, g0, g1⟩ := uv_ok s p n hn hp hu
       generalize (uvAns s p n).1 = u at *
       unfold InR unzig
       simp only
       split <;> omega
     · rw [if_neg hu] at hh; exact absurd hh hu
   · rw [if_neg hh] at h; cases h
 rw [if_neg h2] at h
 by_cases hh : (txAns s p n).2.2 = 0
 · rw [if_pos hh] at h; injection h with h; injection h with h _; subst h; exact ⟨by simp only; omega, by simp only; omega⟩
 · rw [if_neg hh] at h; cases h
theorem all_inR (s : ByteArray) : ∀ (ks : List Int) (p : Nat), p ≤ s.size → ∀ l q, allR s ks p = .ok (l, q) → ∀ x ∈ l, InR x := by
 intro ks
 induction ks with
 | nil => intro p _ l q h x hx; rw [allR] at h; injection h with h; injection h with h _; subst h; simp at hx
 | cons kd ks ih =>
  intro p hp l q h x hx
  rw [allR] at h
  cases hc : colR s kd p (stopOf s p) with
  | error e => rw [hc] at h; cases h
  | ok r =>
   obtain ⟨y, q1⟩ := r
   rw [hc] at h
   simp only at h
   have hn := stopOf_is s p hp
   have hq := col_next s kd p _ hn hp hc
   cases h2 : allR s ks q1 with
   | error e => rw [h2] at h; cases h
   | ok r2 =>
    obtain ⟨l2, q2⟩ := r2
    rw [h2] at h
    simp only at h
    injection h with h; injection h with h _; subst h
    rcases List.mem_cons.1 hx with rfl | hx
    · exact col_inR s kd p _ hn hp hc
    · exact ih q1 hq l2 q2 h2 x hx
theorem read_inR (s : ByteArray) (l : List S84) (h : readR s = .ok l) : ∀ x ∈ l, InR x := by
 unfold readR at h
 split at h
 · cases h
 split at h
 · cases h
 split at h
 · cases h
 split at h
 · cases h
 rename_i hsz _
 cases h2 : allR s ((kindsOf s (nOf s)).take (cOf s)) (1 + nOf s) with
 | error e => rw [h2] at h; cases h
 | ok r =>
  obtain ⟨l2, q⟩ := r
  rw [h2] at h
  simp only [rdEnd] at h
  split at h
  · cases h
  · injection h with h; subst h
    exact all_inR s _ _ (by omega) _ _ h2
noncomputable def pairRowR (nm : ByteArray) (num : Int) (cols : List S87) (key : List Int) (pk pd : ByteArray) : List S84 × Int :=
 match readR pd with
 | .error e => ([], 169)
 | .ok l => if pairR nm num cols key l = (pk, pd, 0) then (l, 0) else ([], 169)
theorem beq_bytes (a b : ByteArray) : (a.toList == b.toList) = decide (a = b) := by
 rw [Bool.eq_iff_iff, beq_iff_eq, decide_eq_true_iff, toList_eq]
theorem read_ne (s : ByteArray) (e : Int) (h : readR s = .error e) : e ≠ 0 := by
 unfold readR at h
 split at h
 · injection h with h; omega
 split at h
 · injection h with h; omega
 split at h
 · injection h with h; omega
 split at h
 · injection h with h; omega
 have := end_err s [] _ _ e (by rw [rdAdd_nil]; exact h)
 exact this
theorem pair_test (q : ByteArray × ByteArray × Int) (pk pd : ByteArray) (l : List S84) :
 (if q.2.2 = 0 then (if (!(q.1.toList == pk.toList) || (!(q.2.1.toList == pd.toList))) = true then (some (([] : List (S84)), (169 : Int))) else (some (l, 0))) else (some (([] : List (S84)), 169))) = some (if q = (pk, pd, 0) then (l, 0) else ([], 169)) := by
 obtain ⟨a, b, e⟩ := q
 simp only [beq_bytes]
 by_cases he : e = 0
 · rw [if_pos he]
   by_cases ha : a = pk
   · by_cases hb : b = pd
     · rw [decide_eq_true ha, decide_eq_true hb, if_neg (by simp), if_pos (by rw [ha, hb, he])]
     · rw [decide_eq_false hb, if_pos (by simp), if_neg (by simp [hb])]
   · rw [decide_eq_false ha, if_pos (by simp), if_neg (by simp [ha])]
 · rw [if_neg he, if_neg (by simp [he])]
theorem prog_pairRow (nm : ByteArray) (num : Int) (cols : List S87) (key : List Int) (pk pd : ByteArray) (hc : ∀ c ∈ cols, c.f0.size ≤ 1000000000) (hk : ∀ x ∈ key, -9223372036854775808 ≤ x ∧ x ≤ 9223372036854775807) (hn : num ≤ 9223372036854775807) (hs : pd.size ≤ 1000000000) :
 Ev (fun k => plan_PairRow.f k nm num cols key pk pd) (pairRowR nm num cols key pk pd) := by
 unfold plan_PairRow.f pairRowR
 refine Ev.bind (prog_read pd hs) ?_
 cases h : readR pd with
 | error e =>
  have hne := read_ne pd e h
  refine Ev.congr (f := fun k => plan_PairRow.j0 k [] true nm num cols key pk pd) (fun k => by rw [if_neg (show ¬ (rowOut (.error e)).2 = 0 from hne)]; rfl) (Ev.step (f := fun _ => some ([], 169)) (fun k => by simp only [plan_PairRow.j0]; rfl) (Ev.now _))
 | ok l =>
  have hin := read_inR pd l h
  have hp := prog_pair nm num cols key l hc hk hn hin
  refine Ev.congr (f := fun k => (plan_isTable.f k nm num cols key).bind fun t254 => (plan_PairRow.j0 k l (!t254) nm num cols key pk pd)) (fun k => by rw [if_pos (show (rowOut (.ok l)).2 = 0 from rfl)]; rfl) (Ev.bind (prog_isTab nm num cols key hc hk) ?_)
  cases ht : isTab nm num cols key with
  | false =>
   have hno : ¬ pairR nm num cols key l = (pk, pd, 0) := by
    unfold pairR
    rw [ht, if_neg (by simp)]
    unfold noPair
    simp
   refine Ev.step (f := fun _ => some ([], 169)) (fun k => by simp only [plan_PairRow.j0]; rfl) ?_
   simp only
   rw [if_neg hno]
   exact Ev.now _
  | true =>
   refine Ev.step (f := fun k => (plan_RowPair.f k nm num cols key l).bind fun bt255 => (if bt255.2.2 = 0 then (if (!(bt255.1.toList == pk.toList) || (!(bt255.2.1.toList == pd.toList))) = true then (some (([] : List (S84)), 169)) else (some (l, 0))) else (some (([] : List (S84)), 169)))) (fun k => by simp only [plan_PairRow.j0]; rfl) (Ev.bind hp (Ev.congr (fun k => ?_) (Ev.now _)))
   exact pair_test _ pk pd l
theorem same_l0 (l : List S84) (hl : l.length ≤ 1000000000) : ∀ (d i : Nat), i + d = l.length → Ev (fun k => stratalaw16_sameValues.l0 k l l (i : Int)) true := by
 intro d
 induction d with
 | zero =>
  intro i hi
  refine Ev.step (f := fun _ => some true) (fun k => ?_) (Ev.now _)
  simp only [stratalaw16_sameValues.l0]
  rw [if_neg (by omega)]
 | succ d ih =>
  intro i hi
  refine Ev.step (fun k => ?_) (ih (i + 1) (by omega))
  simp only [stratalaw16_sameValues.l0]
  rw [if_pos (by omega), if_pos (by omega), if_pos (by omega), if_neg (by simp), wrap_ok (by omega) (by omega)]
  rfl
theorem same_is (l : List S84) (hl : l.length ≤ 1000000000) : Ev (fun k => stratalaw16_sameValues.f k l l) true := by
 refine Ev.congr (fun k => ?_) (same_l0 l hl l.length 0 (by omega))
 unfold stratalaw16_sameValues.f
 rw [if_pos rfl]
 rfl
end Go.Proofs.YtggbhdcgfnjogaaDoor.PlanLaw

