import Derived.Test.YtggbhdcgfnjogaaGreatDoorKLawPair
import Derived.Test.YtggbhdcgfnjogaaGreatDoorKPPcx20
import Derived.Lib.VarintBits
set_option linter.unusedVariables false
namespace Go.Proofs.YtggbhdcgfnjogaaGreatDoor.PlanLaw
open Go.RowKit Go.Proofs.YtggbhdcgfnjogaaGreatDoor.PPc Go.Proofs.YtggbhdcgfnjogaaGreatDoorW.PrintWords Go.Proofs.YtggbhdcgfnjogaaGreatDoorW.PrintLast Go.Proofs.YtggbhdcgfnjogaaGreatDoorW.PrintMore
theorem zZ : ∀ n x, (uv n x).length ≤ n := by
 intro n
 induction n with
 | zero => intro x; simp [uv]
 | succ n ih =>
  intro x;unfold uv
  split
  · simp
  · have := ih (x / 128); simp; omega
theorem uv_byte : ∀ n x, 0 ≤ x → ∀ y ∈ uv n x, 0 ≤ y ∧ y < 256 := by
 intro n
 induction n with
 | zero => intro x _ y hy; simp [uv] at hy
 | succ n ih =>
  intro x hx y hy;unfold uv at hy
  split at hy
  · simp only [List.mem_singleton] at hy; omega
  · simp only [List.mem_cons] at hy
    rcases hy with rfl | hy
    · omega
    · exact ih _ (by omega) y hy
def wv (s : ByteArray) (p : Nat) : Nat → Int
 | 0 => 0
 | i + 1 => wv s p i + (bt s ((p + i : Nat) : Int) % 128) * 128 ^ i
theorem wv_lt (s : ByteArray) (p : Nat) : ∀ i, 0 ≤ wv s p i ∧ wv s p i < 128 ^ i := by
 intro i
 induction i with
 | zero => simp [wv]
 | succ i ih =>
  obtain ⟨h0, h1⟩ := ih;have b0 : 0 ≤ bt s ((p + i : Nat) : Int) % 128 := Int.emod_nonneg _ (by omega)
  have b1 : bt s ((p + i : Nat) : Int) % 128 ≤ 127 := by have := Int.emod_lt_of_pos (bt s ((p + i : Nat) : Int)) (show (0 : Int) < 128 by omega); omega
  have hp : (0 : Int) < 128 ^ i := Int.pow_pos (by omega);rw [wv, Int.pow_succ];generalize bt s ((p + i : Nat) : Int) % 128 = b at *;generalize (128 : Int) ^ i = P at *;have m0 : 0 ≤ b * P := Int.mul_nonneg b0 (by omega);have m1 : b * P ≤ 127 * P := Int.mul_le_mul_of_nonneg_right b1 (by omega)
  omega
structure Stops (s : ByteArray) (p n : Nat) : Prop where
 le : n ≤ 10
 more : ∀ j, j < n → p + j < s.size ∧ 127 < bt s ((p + j : Nat) : Int)
 last : n = 10 ∨ p + n = s.size ∨ (p + n < s.size ∧ bt s ((p + n : Nat) : Int) ≤ 127)
theorem stops_ex (s : ByteArray) (p : Nat) (hp : p ≤ s.size) : ∃ n, Stops s p n := by
 obtain ⟨n, hn, h, hmin⟩ := least (fun n => n = 10 ∨ p + n = s.size ∨ (p + n < s.size ∧ bt s ((p + n : Nat) : Int) ≤ 127)) 10 (Or.inl rfl)
 have hlt : ∀ j, j < n → p + j < s.size := by
  intro j
  induction j with
  | zero =>
   intro h0;have := hmin 0 h0;simp only [not_or, Nat.add_zero] at this
   omega
  | succ j ih =>
   intro h1;have a := ih (by omega);have := hmin (j + 1) h1;simp only [not_or] at this
   omega
 refine ⟨n, hn, fun j hj => ⟨hlt j hj, ?_⟩, h⟩;have a := hlt j hj;have := hmin j hj;simp only [not_or, not_and, Int.not_le] at this
 exact this.2.2 a
def qT (s : ByteArray) (p n : Nat) : Int × Int × Int :=
 if n < 10 ∧ p + n = s.size then (0, (p : Int), 11) else if n = 10 ∨ (n = 9 ∧ 1 < bt s ((p + n : Nat) : Int)) then (0, (p : Int), 12) else if 0 < n ∧ bt s ((p + n : Nat) : Int) = 0 then (0, (p : Int), 13) else (wv s p (n + 1), ((p + n + 1 : Nat) : Int), 0)
theorem zK {p i : Nat} {s : ByteArray} (h : p + i ≤ s.size) (hs : s.size ≤ 1000000000) : wrap64 ((p : Int) + (i : Int)) = ((p + i : Nat) : Int) := by
 rw [z8 (by omega) (by omega)]; rfl
theorem or_step (s : ByteArray) (p i : Nat) (hi : i ≤ 9) (h9 : i = 9 → bt s ((p + i : Nat) : Int) ≤ 1) :
 Go.bits .or .u64 (wv s p i) (shl .u64 (IntKind.u64.wrap (Go.bits .and .u8 (bt s ((p + i : Nat) : Int)) 127)) (wrap64 (7 * (i : Int)))) = wv s p (i + 1) := by
 obtain ⟨b0, b1⟩ := zG s ((p + i : Nat) : Int);obtain ⟨w0, w1⟩ := wv_lt s p i;rw [wv];generalize bt s ((p + i : Nat) : Int) = b at *;generalize wv s p i = W at *;rw [u8_and127 b b0 (by omega), z8 (by omega) (by omega)]
 have e1 : IntKind.u64.wrap (b % 128) = b % 128 := by simp only [IntKind.wrap, IntKind.signed, IntKind.bits]; simp; omega
 rw [e1]
 have hp : (128 : Int) ^ i = 2 ^ (7 * i) := by rw [Int.pow_mul]; rfl
 have e2 : shl .u64 (b % 128) (7 * (i : Int)) = (b % 128) * 2 ^ (7 * i) := by
  unfold shl
  have : min (7 * (i : Int)).toNat IntKind.u64.bits = 7 * i := by
   show min (7 * (i : Int)).toNat 64 = 7 * i
   omega
  rw [this]
  have hi' : i = 0 ∨ i = 1 ∨ i = 2 ∨ i = 3 ∨ i = 4 ∨ i = 5 ∨ i = 6 ∨ i = 7 ∨ i = 8 ∨ i = 9 := by omega
  rcases hi' with rfl | rfl | rfl | rfl | rfl | rfl | rfl | rfl | rfl | rfl
  all_goals simp only [IntKind.wrap, IntKind.signed, IntKind.bits]
  all_goals simp
  all_goals first | omega | (have := h9 rfl; omega)
 rw [e2]
 have hi' : i = 0 ∨ i = 1 ∨ i = 2 ∨ i = 3 ∨ i = 4 ∨ i = 5 ∨ i = 6 ∨ i = 7 ∨ i = 8 ∨ i = 9 := by omega
 rcases hi' with rfl | rfl | rfl | rfl | rfl | rfl | rfl | rfl | rfl | rfl
 · exact u64_orv0 W _ w0 (by simpa using w1) (by simp; omega) (by simp) (by simp; omega)
 · exact u64_orv7 W _ w0 (by simpa using w1) (by simp; omega) (by simp) (by simp; omega)
 · exact u64_orv14 W _ w0 (by simpa using w1) (by simp; omega) (by simp) (by simp; omega)
 · exact u64_orv21 W _ w0 (by simpa using w1) (by simp; omega) (by simp) (by simp; omega)
 · exact u64_orv28 W _ w0 (by simpa using w1) (by simp; omega) (by simp) (by simp; omega)
 · exact u64_orv35 W _ w0 (by simpa using w1) (by simp; omega) (by simp) (by simp; omega)
 · exact u64_orv42 W _ w0 (by simpa using w1) (by simp; omega) (by simp) (by simp; omega)
 · exact u64_orv49 W _ w0 (by simpa using w1) (by simp; omega) (by simp) (by simp; omega)
 · exact u64_orv56 W _ w0 (by simpa using w1) (by simp; omega) (by simp) (by simp; omega)
 · have := h9 rfl
   exact u64_orv63 W _ w0 (by simpa using w1) (by simp; omega) (by simp) (by simp; omega)
theorem prog_uv_l0 (s : ByteArray) (hs : s.size ≤ 1000000000) (p n : Nat) (hn : Stops s p n) (hp : p ≤ s.size) :
 ∀ (d i : Nat), i + d = n → Ev (fun k => qw.l0 k s (p : Int) (wv s p i) (i : Int)) (qT s p n) := by
 have hsz : p + n ≤ s.size := by
  cases n with
  | zero => omega
  | succ m => have := (hn.more m (by omega)).1; omega
 intro d
 induction d with
 | zero =>
  intro i hi
  obtain rfl : i = n := by omega
  have hnle := hn.le;unfold qT
  by_cases c1 : i < 10 ∧ p + i = s.size
  · rw [if_pos c1]
    refine Ev.step (f := fun _ => some (0, (p : Int), 11)) (fun k => ?_) (Ev.now _);simp only [qw.l0];rw [if_pos (by omega), zK hsz hs, if_pos (by omega)]
  rw [if_neg c1]
  by_cases c2 : i = 10
  · rw [if_pos (Or.inl c2)]
    refine Ev.step (f := fun _ => some (0, (p : Int), 12)) (fun k => ?_) (Ev.now _);simp only [qw.l0];rw [if_neg (by omega)]
  have hlt : p + i < s.size := by omega
  have hb : bt s ((p + i : Nat) : Int) ≤ 127 := by
   rcases hn.last with h | h | h
   · omega
   · omega
   · exact h.2
  have hj : ∀ x38, (x38 = true → i = 9 ∧ 1 < bt s ((p + i : Nat) : Int)) → (x38 = false → (i = 9 → bt s ((p + i : Nat) : Int) ≤ 1)) → Ev (fun k => qw.j2 k s (p : Int) (wv s p i) (i : Int) (bt s ((p + i : Nat) : Int)) (i : Int) x38) (if i = 10 ∨ (i = 9 ∧ 1 < bt s ((p + i : Nat) : Int)) then (0, (p : Int), 12) else if 0 < i ∧ bt s ((p + i : Nat) : Int) = 0 then (0, (p : Int), 13) else (wv s p (i + 1), ((p + i + 1 : Nat) : Int), 0)) := by
   intro x38 ht hf
   cases x38 with
   | true =>
    rw [if_pos (Or.inr (ht rfl))]
    exact Ev.step (f := fun _ => some (0, (p : Int), 12)) (fun k => by simp only [qw.j2]; rfl) (Ev.now _)
   | false =>
    have h9 := hf rfl
    have hno : ¬ (i = 10 ∨ (i = 9 ∧ 1 < bt s ((p + i : Nat) : Int))) := by
     rintro (h | ⟨h, h'⟩)
     · omega
     · have := h9 h
       omega
    rw [if_neg hno];have ho := or_step s p i (by omega) h9
    have hw : wrap64 (((p + i : Nat) : Int) + 1) = ((p + i + 1 : Nat) : Int) := by rw [z8 (by omega) (by omega)]; rfl
    by_cases c3 : 0 < i ∧ bt s ((p + i : Nat) : Int) = 0
    · rw [if_pos c3]
      refine Ev.step (f := fun _ => some (0, (p : Int), 13)) (fun k => ?_) (Ev.now _);simp only [qw.j2];rw [if_neg (by simp), if_pos (by rw [z8 (by omega) (by omega)]; omega), if_pos (by omega), if_pos c3.2, if_pos (by omega)]
    · rw [if_neg c3]
      refine Ev.step (f := fun _ => some (wv s p (i + 1), ((p + i + 1 : Nat) : Int), 0)) (fun k => ?_) (Ev.now _);simp only [qw.j2];rw [if_neg (by simp), if_pos (by rw [z8 (by omega) (by omega)]; omega), if_pos (by omega), ho, zK hsz hs, hw]
      by_cases c4 : bt s ((p + i : Nat) : Int) = 0
      · rw [if_pos c4, if_neg (by omega)]
      · rw [if_neg c4]
  by_cases c9 : i = 9
  · refine Ev.step (fun k => ?_) (hj (decide (bt s ((p + i : Nat) : Int) > 1)) (fun h => ⟨c9, of_decide_eq_true h⟩) (fun h _ => by have := of_decide_eq_false h; omega))
    simp only [qw.l0];rw [if_pos (by omega), zK hsz hs, if_neg (by omega), if_pos (by omega), if_pos (by omega), if_pos (by omega)]
  · refine Ev.step (fun k => ?_) (hj false (fun h => by cases h) (fun _ h => absurd h c9))
    simp only [qw.l0];rw [if_pos (by omega), zK hsz hs, if_neg (by omega), if_pos (by omega), if_pos (by omega), if_neg (by omega)]
 | succ d ih =>
  intro i hi;obtain ⟨hlt, hb⟩ := hn.more i (by omega);have hnle := hn.le
  by_cases c9 : i = 9
  · have en : n = 10 := by omega
    have ea : qT s p n = (0, (p : Int), 12) := by unfold qT; rw [if_neg (by omega), if_pos (Or.inl en)]
    rw [ea];refine Ev.step (f := fun k => qw.j2 k s (p : Int) (wv s p i) (i : Int) (bt s ((p + i : Nat) : Int)) (i : Int) true) (fun k => ?_) (Ev.step (f := fun _ => some (0, (p : Int), 12)) (fun k => by simp only [qw.j2]; rfl) (Ev.now _));simp only [qw.l0];rw [if_pos (by omega), zK (s := s) (by omega) hs, if_neg (by omega), if_pos (by omega), if_pos (by omega), if_pos (by omega), decide_eq_true (by omega)]
  · have ho := or_step s p i (by omega) (fun h => absurd h c9)
    refine Ev.step (f := fun k => qw.j2 k s (p : Int) (wv s p i) (i : Int) (bt s ((p + i : Nat) : Int)) (i : Int) false) (fun k => ?_) (Ev.step (fun k => ?_) (ih (i + 1) (by omega)))
    · simp only [qw.l0]
      rw [if_pos (by omega), zK (s := s) (by omega) hs, if_neg (by omega), if_pos (by omega), if_pos (by omega), if_neg (by omega)]
    · simp only [qw.j2]
      rw [if_neg (by simp), if_pos (by rw [z8 (by omega) (by omega)]; omega), if_neg (by omega), ho, z8 (by omega) (by omega)]
      rfl
theorem prog_uv (s : ByteArray) (hs : s.size ≤ 1000000000) (p n : Nat) (hn : Stops s p n) (hp : p ≤ s.size) : Ev (fun k => qw.f k s (p : Int)) (qT s p n) := by
 refine Ev.congr (f := fun k => qw.j0 k s (p : Int) 0 false) (fun k => ?_) (Ev.step (fun k => ?_) (prog_uv_l0 s hs p n hn hp n 0 (by omega)))
 · unfold qw.f
   rw [if_neg (by omega), decide_eq_false (by omega)]
 · simp only [qw.j0]
   rfl
theorem ref_uv_l1 (s : ByteArray) (hs : s.size ≤ 1000000000) (p n : Nat) (hlt : p + n < s.size) (hv : wv s p (n + 1) < 18446744073709551616) (hn : n ≤ 9) :
 ∀ (d : Nat) (a : Int), d ≤ n + 1 → 0 ≤ a → wv s p d + 128 ^ d * a = wv s p (n + 1) → Ev (fun k => qh.l1 k s (p : Int) (n : Int) a ((d : Int) - 1)) (wv s p (n + 1), ((p + n + 1 : Nat) : Int), 0) := by
 intro d
 induction d with
 | zero =>
  intro a _ ha he
  have : a = wv s p (n + 1) := by rw [← he]; simp [wv]
  subst this;refine Ev.step (f := fun _ => some (wv s p (n + 1), ((p + n + 1 : Nat) : Int), 0)) (fun k => ?_) (Ev.now _);simp only [qh.l1];rw [if_neg (by omega), zK (s := s) (by omega) hs, z8 (by omega) (by omega)]
  rfl
 | succ d ih =>
  intro a hd ha he;obtain ⟨b0, b1⟩ := zG s ((p + d : Nat) : Int);obtain ⟨w0, w1⟩ := wv_lt s p d;rw [wv] at he;have hP : (0 : Int) < 128 ^ d := Int.pow_pos (by omega)
  have e1 : wv s p d + 128 ^ d * (a * 128 + bt s ((p + d : Nat) : Int) % 128) = wv s p (n + 1) := by
   rw [← he, Int.pow_succ];generalize (128 : Int) ^ d = P;generalize bt s ((p + d : Nat) : Int) % 128 = b;rw [Int.mul_add, Int.mul_comm b P, Int.mul_comm a 128, ← Int.mul_assoc]
   omega
  have hnn : 0 ≤ a * 128 + bt s ((p + d : Nat) : Int) % 128 := by have := Int.emod_nonneg (bt s ((p + d : Nat) : Int)) (show (128 : Int) ≠ 0 by omega); omega
  have hle : a * 128 + bt s ((p + d : Nat) : Int) % 128 ≤ wv s p (n + 1) := by
   have := Int.mul_le_mul_of_nonneg_right (show (1 : Int) ≤ 128 ^ d by omega) hnn
   omega
  have hw1 : IntKind.u64.wrap (a * 128) = a * 128 := by simp only [IntKind.wrap, IntKind.signed, IntKind.bits]; simp; omega
  have hw2 : IntKind.u64.wrap (bt s ((p + d : Nat) : Int) % 128) = bt s ((p + d : Nat) : Int) % 128 := by simp only [IntKind.wrap, IntKind.signed, IntKind.bits]; simp; omega
  have hw3 : IntKind.u64.wrap (a * 128 + bt s ((p + d : Nat) : Int) % 128) = a * 128 + bt s ((p + d : Nat) : Int) % 128 := by simp only [IntKind.wrap, IntKind.signed, IntKind.bits]; simp; omega
  refine Ev.step (fun k => ?_) (ih (a * 128 + bt s ((p + d : Nat) : Int) % 128) (by omega) hnn e1)
  have e2 : (((d + 1 : Nat) : Int) - 1) = (d : Int) := by omega
  simp only [e2, qh.l1];rw [if_pos (by omega), zK (s := s) (by omega) hs, if_pos (by omega), if_pos (by omega), Int.tmod_eq_emod_of_nonneg b0, hw1, hw2, hw3, z8 (by omega) (by omega)]
theorem ref_uv_j1 (s : ByteArray) (hs : s.size ≤ 1000000000) (p n : Nat) (hn : Stops s p n) (hp : p ≤ s.size) : Ev (fun k => qh.j1 k s (p : Int) (n : Int)) (qT s p n) := by
 have hsz : p + n ≤ s.size := by
  cases n with
  | zero => omega
  | succ m => have := (hn.more m (by omega)).1; omega
 have hnle := hn.le;unfold qT
 by_cases c1 : n < 10 ∧ p + n = s.size
 · rw [if_pos c1]
   refine Ev.step (f := fun k => qh.j2 k s (p : Int) (n : Int) true) (fun k => ?_) (Ev.step (f := fun _ => some (0, (p : Int), 11)) (fun k => by simp only [qh.j2]; rfl) (Ev.now _));simp only [qh.j1];rw [if_pos (by omega), zK hsz hs, show (((p + n : Nat) : Int) == (s.size : Int)) = true by simp; omega]
 rw [if_neg c1];refine Ev.step (f := fun k => qh.j2 k s (p : Int) (n : Int) false) (fun k => ?_) ?_
 · simp only [qh.j1]
   by_cases h10 : n < 10
   · rw [if_pos (by omega), zK hsz hs, show (((p + n : Nat) : Int) == (s.size : Int)) = false by simp; omega]
   · rw [if_neg (by omega)]
 have bad : Ev (fun k => qh.j3 k s (p : Int) (n : Int) true) (0, (p : Int), 12) := Ev.step (f := fun _ => some (0, (p : Int), 12)) (fun k => by simp only [qh.j3]; rfl) (Ev.now _)
 by_cases c2 : n = 10
 · rw [if_pos (Or.inl c2)]
   refine Ev.step (fun k => ?_) bad;simp only [qh.j2];rw [if_neg (by simp), if_pos (by omega)]
 have hlt : p + n < s.size := by omega
 have good : (n = 9 → bt s ((p + n : Nat) : Int) ≤ 1) → Ev (fun k => qh.j3 k s (p : Int) (n : Int) false) (if 0 < n ∧ bt s ((p + n : Nat) : Int) = 0 then (0, (p : Int), 13) else (wv s p (n + 1), ((p + n + 1 : Nat) : Int), 0)) := by
  intro h9
  have hv : wv s p (n + 1) < 18446744073709551616 := by
   by_cases e : n = 9
   · subst e
     have := (wv_lt s p 9).2;have := h9 rfl;have := zG s ((p + 9 : Nat) : Int);rw [wv];have hm : (bt s ((p + 9 : Nat) : Int) % 128) * 128 ^ 9 ≤ 1 * 128 ^ 9 := Int.mul_le_mul_of_nonneg_right (by omega) (by omega)
     omega
   · have h1 := (wv_lt s p (n + 1)).2
     have h2 : (128 : Int) ^ (n + 1) ≤ 128 ^ 9 := by
      have hi' : n = 0 ∨ n = 1 ∨ n = 2 ∨ n = 3 ∨ n = 4 ∨ n = 5 ∨ n = 6 ∨ n = 7 ∨ n = 8 := by omega
      rcases hi' with rfl | rfl | rfl | rfl | rfl | rfl | rfl | rfl | rfl <;> decide
     omega
  have hl := ref_uv_l1 s hs p n hlt hv (by omega) (n + 1) 0 (Nat.le_refl _) (by omega) (by simp);rw [show (((n + 1 : Nat) : Int) - 1) = (n : Int) by omega] at hl
  by_cases c3 : 0 < n ∧ bt s ((p + n : Nat) : Int) = 0
  · rw [if_pos c3]
    refine Ev.step (f := fun k => qh.j4 k s (p : Int) (n : Int) true) (fun k => ?_) (Ev.step (f := fun _ => some (0, (p : Int), 13)) (fun k => by simp only [qh.j4]; rfl) (Ev.now _));simp only [qh.j3];rw [if_neg (by simp), if_pos (by omega), zK hsz hs, if_pos (by omega), if_pos (by omega), c3.2]
    rfl
  · rw [if_neg c3]
    refine Ev.step (f := fun k => qh.j4 k s (p : Int) (n : Int) false) (fun k => ?_) (Ev.step (fun k => by simp only [qh.j4]; rfl) hl);simp only [qh.j3];rw [if_neg (by simp)]
    by_cases h0 : n = 0
    · rw [if_neg (by omega)]
    · rw [if_pos (by omega), zK hsz hs, if_pos (by omega), if_pos (by omega), beq_eq_false_iff_ne.2 (fun e => c3 ⟨by omega, e⟩)]
 by_cases c9 : n = 9
 · subst c9
   by_cases hb : 1 < bt s ((p + 9 : Nat) : Int)
   · rw [if_pos (Or.inr ⟨rfl, hb⟩)]
     refine Ev.step (fun k => ?_) bad;simp only [qh.j2];rw [if_neg (by simp), if_neg (by omega), if_pos (by omega), show wrap64 ((p : Int) + 9) = ((p + 9 : Nat) : Int) from zK hsz hs, if_pos (by omega), if_pos (by omega), decide_eq_true (by omega)]
   · rw [if_neg (by omega)]
     refine Ev.step (fun k => ?_) (good (fun _ => by omega));simp only [qh.j2];rw [if_neg (by simp), if_neg (by omega), if_pos (by omega), show wrap64 ((p : Int) + 9) = ((p + 9 : Nat) : Int) from zK hsz hs, if_pos (by omega), if_pos (by omega), decide_eq_false (by omega)]
 · rw [if_neg (by omega)]
   refine Ev.step (fun k => ?_) (good (fun h => absurd h c9));simp only [qh.j2];rw [if_neg (by simp), if_neg (by omega), if_neg (by omega)]
theorem ref_uv_l0 (s : ByteArray) (hs : s.size ≤ 1000000000) (p n : Nat) (hn : Stops s p n) (hp : p ≤ s.size) :
 ∀ (d i : Nat), i + d = n → Ev (fun k => qh.l0 k s (p : Int) (i : Int)) (qT s p n) := by
 have hsz : p + n ≤ s.size := by
  cases n with
  | zero => omega
  | succ m => have := (hn.more m (by omega)).1; omega
 have hnle := hn.le;intro d
 induction d with
 | zero =>
  intro i hi
  obtain rfl : i = n := by omega
  refine Ev.step (fun k => ?_) (ref_uv_j1 s hs p i hn hp);simp only [qh.l0]
  by_cases h10 : i < 10
  · rw [if_pos (by omega), zK hsz hs]
    by_cases hl : p + i < s.size
    · have hb : bt s ((p + i : Nat) : Int) ≤ 127 := by
       rcases hn.last with h | h | h
       · omega
       · omega
       · exact h.2
      rw [if_pos (by omega), if_pos (by omega), if_neg (by omega)]
    · rw [if_neg (by omega)]
  · rw [if_neg (by omega)]
 | succ d ih =>
  intro i hi;obtain ⟨hlt, hb⟩ := hn.more i (by omega);refine Ev.step (fun k => ?_) (ih (i + 1) (by omega));simp only [qh.l0];rw [if_pos (by omega), zK (s := s) (by omega) hs, if_pos (by omega), if_pos (by omega), if_pos (by omega), z8 (by omega) (by omega)]
  rfl
theorem ref_uv (s : ByteArray) (hs : s.size ≤ 1000000000) (p n : Nat) (hn : Stops s p n) (hp : p ≤ s.size) : Ev (fun k => qh.f k s (p : Int)) (qT s p n) := by
 unfold qh.f;refine Ev.bind (a := true) (Ev.congr (fun k => ?_) (Ev.now _)) (Ev.congr (fun k => ?_) (ref_uv_l0 s hs p n hn hp n 0 (by omega)))
 · unfold zx.f
   rw [if_pos (by omega), decide_eq_true (by omega)]
 · rfl
end Go.Proofs.YtggbhdcgfnjogaaGreatDoor.PlanLaw

