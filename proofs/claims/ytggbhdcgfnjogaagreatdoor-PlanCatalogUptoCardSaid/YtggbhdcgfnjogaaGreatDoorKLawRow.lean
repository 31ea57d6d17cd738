import Derived.Test.YtggbhdcgfnjogaaGreatDoorKLawRead
set_option linter.unusedVariables false
namespace Go.Proofs.YtggbhdcgfnjogaaGreatDoor.PlanLaw
open Go.RowKit Go.Proofs.YtggbhdcgfnjogaaGreatDoor.PPc Go.Proofs.YtggbhdcgfnjogaaGreatDoorW.PrintWords Go.Proofs.YtggbhdcgfnjogaaGreatDoorW.PrintLast Go.Proofs.YtggbhdcgfnjogaaGreatDoorW.PrintMore
theorem uv_ok (s : ByteArray) (p n : Nat) (hn : Stops s p n) (hp : p ≤ s.size) : (qT s p n).2.2 = 0 → ∃ q : Nat, (qT s p n).2.1 = (q : Int) ∧ p < q ∧ q ≤ s.size ∧ 0 ≤ (qT s p n).1 ∧ (qT s p n).1 < 18446744073709551616 := by
 have hsz : p + n ≤ s.size := by
  cases n with
  | zero => omega
  | succ m => have := (hn.more m (by omega)).1; omega
 have hnle := hn.le;unfold qT
 by_cases c1 : n < 10 ∧ p + n = s.size
 · rw [if_pos c1]; intro h; simp at h
 rw [if_neg c1]
 by_cases c2 : n = 10 ∨ (n = 9 ∧ 1 < bt s ((p + n : Nat) : Int))
 · rw [if_pos c2]; intro h; simp at h
 rw [if_neg c2]
 by_cases c3 : 0 < n ∧ bt s ((p + n : Nat) : Int) = 0
 · rw [if_pos c3]; intro h; simp at h
 rw [if_neg c3];intro _;refine ⟨p + n + 1, rfl, by omega, by omega, (wv_lt s p (n + 1)).1, ?_⟩;show wv s p (n + 1) < 18446744073709551616
 by_cases e : n = 9
 · subst e
   have h1 := (wv_lt s p 9).2
   have hb : bt s ((p + 9 : Nat) : Int) ≤ 1 := by omega
   have h0 := zG s ((p + 9 : Nat) : Int);rw [wv];have hm : (bt s ((p + 9 : Nat) : Int) % 128) * 128 ^ 9 ≤ 1 * 128 ^ 9 := Int.mul_le_mul_of_nonneg_right (by omega) (by omega)
   omega
 · have h1 := (wv_lt s p (n + 1)).2
   have h2 : (128 : Int) ^ (n + 1) ≤ 128 ^ 9 := by
    have hi' : n = 0 ∨ n = 1 ∨ n = 2 ∨ n = 3 ∨ n = 4 ∨ n = 5 ∨ n = 6 ∨ n = 7 ∨ n = 8 := by omega
    rcases hi' with rfl | rfl | rfl | rfl | rfl | rfl | rfl | rfl | rfl <;> decide
   omega
noncomputable def qR (s : ByteArray) (p : Nat) : Nat := @dite _ (p ≤ s.size) (Nat.decLe _ _) (fun h => Classical.choose (stops_ex s p h)) (fun _ => 0)
theorem zz (s : ByteArray) (p : Nat) (h : p ≤ s.size) : Stops s p (qR s p) := by
 unfold qR;rw [dif_pos h]
 exact Classical.choose_spec (stops_ex s p h)
end Go.Proofs.YtggbhdcgfnjogaaGreatDoor.PlanLaw

