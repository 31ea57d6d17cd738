import Derived.Test.YtggbhdcgfnjogaaGreatDoorKLawRow
set_option linter.unusedVariables false
namespace Go.Proofs.YtggbhdcgfnjogaaGreatDoor.PlanLaw
open Go.RowKit Go.Proofs.YtggbhdcgfnjogaaGreatDoor.PPc Go.Proofs.YtggbhdcgfnjogaaGreatDoorW.PrintWords Go.Proofs.YtggbhdcgfnjogaaGreatDoorW.PrintLast Go.Proofs.YtggbhdcgfnjogaaGreatDoorW.PrintMore
theorem strOfNums_get (xs : List Int) (i : Nat) (h : i < xs.length) (hx : 0 ≤ xs[i] ∧ xs[i] < 256) : bt (strOfNums xs) (i : Int) = xs[i] := by
 have hs : i < (strOfNums xs).size := by rw [strOfNums_size]; exact h
 rw [bt_data _ i hs];simp only [strOfNums_data, List.getElem_map];rw [UInt8.toNat_ofNat']
 omega
def At (s : ByteArray) (p : Nat) (xs : List Int) : Prop := p + xs.length ≤ s.size ∧ ∀ i (h : i < xs.length), bt s ((p + i : Nat) : Int) = xs[i]
theorem At.app {s : ByteArray} {p : Nat} {xs ys : List Int} (h : At s p (xs ++ ys)) : At s p xs ∧ At s (p + xs.length) ys := by
 obtain ⟨h1, h2⟩ := h;rw [List.length_append] at h1;refine ⟨⟨by omega, fun i hi => ?_⟩, ⟨by omega, fun i hi => ?_⟩⟩
 · have := h2 i (by rw [List.length_append]; omega)
   rw [this, List.getElem_append_left hi]
 · have := h2 (xs.length + i) (by rw [List.length_append]; omega)
   rw [show p + xs.length + i = p + (xs.length + i) by omega, this, List.getElem_append_right (by omega)]
   simp
theorem At.of (xs ys zs : List Int) (hb : ∀ y ∈ ys, 0 ≤ y ∧ y < 256) : At (strOfNums (xs ++ ys ++ zs)) xs.length ys := by
 refine ⟨by rw [strOfNums_size]; simp, fun i hi => ?_⟩
 have hlen : xs.length + i < (xs ++ ys ++ zs).length := by simp; omega
 have e : (xs ++ ys ++ zs)[xs.length + i] = ys[i] := by
  rw [List.getElem_append_left (by simp; omega), List.getElem_append_right (by omega)]
  simp
 rw [strOfNums_get _ _ hlen (by rw [e]; exact hb _ (List.getElem_mem hi)), e]
def tailOK : List Int → Prop
 | [] => False
 | [b] => 0 < b ∧ b ≤ 127
 | b :: l => 127 < b ∧ tailOK l
theorem tail_cons (b : Int) (l : List Int) (h1 : 127 < b) (h2 : tailOK l) : tailOK (b :: l) := by
 cases l with
 | nil => exact absurd h2 id
 | cons c l => exact ⟨h1, h2⟩
theorem uv_tail : ∀ (n : Nat) (x : Int), 0 < x → x < 128 ^ n → tailOK (uv n x) := by
 intro n
 induction n with
 | zero => intro x h0 h1; simp at h1; omega
 | succ n ih =>
  intro x h0 h1;unfold uv
  by_cases hx : x < 128
  · rw [if_pos hx]; exact ⟨h0, by omega⟩
  · rw [if_neg hx]
    exact tail_cons _ _ (by omega) (ih (x / 128) (by omega) (by rw [Int.pow_succ] at h1; exact Int.ediv_lt_of_lt_mul (by omega) h1))
theorem tail_at : ∀ (l : List Int), tailOK l → (∀ i (h : i + 1 < l.length), 127 < l[i]) ∧ ∃ h : l.length - 1 < l.length, 0 < l[l.length - 1] ∧ l[l.length - 1] ≤ 127 := by
 intro l
 induction l with
 | nil => intro h; exact absurd h id
 | cons b l ih =>
  intro h
  cases l with
  | nil => exact ⟨fun i h => by simp at h, by simp, h⟩
  | cons c l =>
   obtain ⟨h1, h2⟩ := h;obtain ⟨a, hl, d⟩ := ih h2;refine ⟨fun i hi => ?_, by simp, ?_⟩
   · cases i with
     | zero => exact h1
     | succ i => simp only [List.length_cons, List.getElem_cons_succ] at hi ⊢; exact a i (by simp only [List.length_cons]; omega)
   · simpa using d
theorem uv_shape (x : Int) (h0 : 0 ≤ x) (h1 : x < 128 ^ 10) : ∃ xs, uv 10 x = xs ∧ (∀ i (h : i + 1 < xs.length), 127 < xs[i]) ∧ (∃ h : xs.length - 1 < xs.length, xs[xs.length - 1] ≤ 127 ∧ (xs[xs.length - 1] = 0 → xs.length = 1)) := by
 by_cases hz : x = 0
 · subst hz
   exact ⟨[0], rfl, fun i h => by simp at h, by simp, by simp, fun _ => rfl⟩
 · obtain ⟨a, hl, b, c⟩ := tail_at _ (uv_tail 10 x (by omega) h1)
   exact ⟨_, rfl, a, hl, c, fun e => by omega⟩
def wl : List Int → Int
 | [] => 0
 | b :: l => b % 128 + 128 * wl l
theorem uv_wl : ∀ (n : Nat) (x : Int), 0 ≤ x → x < 128 ^ n → wl (uv n x) = x := by
 intro n
 induction n with
 | zero => intro x h0 h1; simp at h1; unfold uv wl; omega
 | succ n ih =>
  intro x h0 h1;rw [uv]
  by_cases hx : x < 128
  · rw [if_pos hx]; simp only [wl]; omega
  · rw [if_neg hx]
    simp only [wl];rw [ih (x / 128) (by omega) (by rw [Int.pow_succ] at h1; exact Int.ediv_lt_of_lt_mul (by omega) h1)]
    omega
theorem wl_snoc : ∀ (l : List Int) (b : Int), wl (l ++ [b]) = wl l + 128 ^ l.length * (b % 128) := by
 intro l
 induction l with
 | nil => intro b; simp [wl]
 | cons a l ih =>
  intro b;simp only [List.cons_append, wl, ih, List.length_cons, Int.pow_succ];generalize (128 : Int) ^ l.length = P;generalize b % 128 = c;rw [Int.mul_add, ← Int.mul_assoc, Int.mul_comm 128 P]
  omega
theorem wv_at (s : ByteArray) (p : Nat) (xs : List Int) (h : At s p xs) : ∀ n, n ≤ xs.length → wv s p n = wl (xs.take n) := by
 intro n
 induction n with
 | zero => intro _; simp [wv, wl]
 | succ n ih =>
  intro hn;rw [wv, ih (by omega), List.take_succ_eq_append_getElem (by omega), wl_snoc, h.2 n (by omega), List.length_take, Nat.min_eq_left (by omega), Int.mul_comm]
theorem uv_read (s : ByteArray) (p : Nat) (x : Int) (h0 : 0 ≤ x) (h1 : x < 18446744073709551616) (h : At s p (uv 10 x)) (n : Nat) (hn : Stops s p n) : qT s p n = (x, ((p + (uv 10 x).length : Nat) : Int), 0) := by
 have hx : x < 128 ^ 10 := by have : (128 : Int) ^ 10 = 1180591620717411303424 := by decide
                              omega
 obtain ⟨xs, hxs, a, hlt, c, d⟩ := uv_shape x h0 hx;have hw := uv_wl 10 x h0 hx;have hl := zZ 10 x;rw [hxs] at h hw hl ⊢;clear hxs;have hlast := h.2 (xs.length - 1) (by omega)
 have hen : n = xs.length - 1 := by
  rcases Nat.lt_trichotomy n (xs.length - 1) with hlt | he | hgt
  · exfalso
    have hbyte := h.2 n (by omega);have := a n (by omega);have := h.1
    rcases hn.last with q | q | q
    · omega
    · omega
    · omega
  · exact he
  · exfalso
    have := (hn.more (xs.length - 1) hgt).2;rw [hlast] at this
    omega
 have hsz := h.1
 have hbn : bt s ((p + n : Nat) : Int) = xs[xs.length - 1] := by rw [hen]; exact hlast
 have hval : wv s p (n + 1) = x := by rw [wv_at s p xs h (n + 1) (by omega), List.take_of_length_le (by omega), hw]
 have h9 : n = 9 → bt s ((p + n : Nat) : Int) ≤ 1 := by
  intro e9;have hwv := hval;rw [wv] at hwv;subst e9;have g0 := wv_lt s p 9;have gb := zG s ((p + 9 : Nat) : Int)
  have hc : bt s ((p + 9 : Nat) : Int) ≤ 127 := by rw [hbn]; exact c
  by_cases hle : bt s ((p + 9 : Nat) : Int) ≤ 1
  · exact hle
  · exfalso
    have h2 : 2 * 128 ^ 9 ≤ (bt s ((p + 9 : Nat) : Int) % 128) * 128 ^ 9 := Int.mul_le_mul_of_nonneg_right (by omega) (by omega)
    have : (128 : Int) ^ 9 = 9223372036854775808 := by decide
    omega
 unfold qT
 have n1 : ¬ (n < 10 ∧ p + n = s.size) := by omega
 have n2 : ¬ (n = 10 ∨ (n = 9 ∧ 1 < bt s ((p + n : Nat) : Int))) := by
  rintro (e | ⟨e, e'⟩)
  · omega
  · have := h9 e; omega
 have n3 : ¬ (0 < n ∧ bt s ((p + n : Nat) : Int) = 0) := by
  rintro ⟨e, e'⟩
  rw [hbn] at e';have := d e'
  omega
 rw [if_neg n1, if_neg n2, if_neg n3, hval, show p + n + 1 = p + xs.length by omega]
theorem extract_at (s t : ByteArray) (p : Nat) (h : At s p (zh t)) : s.extract p (p + t.size) = t := by
 obtain ⟨h1, h2⟩ := h;rw [zm] at h1
 apply Go.WideShapes.bytes_inj
 rw [Lib.extract_data]
 apply List.ext_getElem
 · simp only [List.length_take, List.length_drop, zN]; omega
 · intro i a b
   rw [zN] at b;have e := h2 i (by rw [zm]; exact b);rw [bt_data s (p + i) (by omega)] at e;simp only [zh, List.getElem_map] at e;simp only [List.getElem_take, List.getElem_drop]
   apply UInt8.toNat_inj.1
   exact_mod_cast e
end Go.Proofs.YtggbhdcgfnjogaaGreatDoor.PlanLaw

