import Derived.Test.YtggbhdcgfnjogaaGreatDoorKLawDec
set_option linter.unusedVariables false
namespace Go.Proofs.YtggbhdcgfnjogaaGreatDoor.PlanLaw
open Go.RowKit Go.Proofs.YtggbhdcgfnjogaaGreatDoor.PPc Go.Proofs.YtggbhdcgfnjogaaGreatDoorW.PrintWords Go.Proofs.YtggbhdcgfnjogaaGreatDoorW.PrintLast Go.Proofs.YtggbhdcgfnjogaaGreatDoorW.PrintMore
theorem same_tab (nm : ByteArray) (num : Int) (cols : List S49) (key : List Int) (hc : cols.length ≤ 1000000000) (hk : key.length ≤ 1000000000) : Ev (fun k => qv.f k nm num cols key nm num cols key) true := by
 have l1 : ∀ d i : Nat, i + d = key.length → Ev (fun k => qv.l1 k (i : Int) nm num cols key nm num cols key) true := by
  intro d
  induction d with
  | zero =>
   intro i hi;refine Ev.step (f := fun _ => some true) (fun k => ?_) (Ev.now _);simp only [qv.l1];rw [if_neg (by omega)]
  | succ d ih =>
   intro i hi;refine Ev.step (fun k => ?_) (ih (i + 1) (by omega));simp only [qv.l1];rw [if_pos (by omega), if_pos (by omega), if_pos (by omega), z8 (by omega) (by omega)]
   simp
 have l0 : ∀ d i : Nat, i + d = cols.length → Ev (fun k => qv.l0 k (i : Int) nm num cols key nm num cols key) true := by
  intro d
  induction d with
  | zero =>
   intro i hi;refine Ev.step (fun k => ?_) (l1 key.length 0 (by omega));simp only [qv.l0];rw [if_neg (by omega)]
   rfl
  | succ d ih =>
   intro i hi;refine Ev.step (fun k => ?_) (ih (i + 1) (by omega));simp only [qv.l0];rw [if_pos (by omega), if_pos (by omega), if_pos (by omega), if_neg (by simp), z8 (by omega) (by omega)]
   rfl
 unfold qv.f;refine Ev.congr (f := fun k => qv.j0 k false nm num cols key nm num cols key) (fun k => ?_) (Ev.step (fun k => ?_) (l0 cols.length 0 (by omega)))
 · rw [if_pos rfl, if_pos rfl, if_pos rfl]
   simp
 · simp only [qv.j0]
   rw [if_neg (by simp)]
   rfl
end Go.Proofs.YtggbhdcgfnjogaaGreatDoor.PlanLaw

