/- The plain law of characters: the reference's width of a character is the one by which Go ranges over a text, so both cut a text alike. -/
import Derived.Test.YtggbhdcgfnjogaaPLkx4
import Derived.Laws.RangeAny
set_option linter.unusedSectionVars false
namespace Go.Proofs.Ytggbhdcgfnjogaa.CharLaw
open Go.RowKit Go.Proofs.Ytggbhdcgfnjogaa.PLk Go.Proofs.YtggbhdcgfnjogaaW.PrintWords Go.Proofs.YtggbhdcgfnjogaaW.PrintLast

theorem wrap_small {x : Int} (h0 : 0 ≤ x) (h : x < 9000000000000000000) : wrap64 x = x := by unfold wrap64; omega
section
variable (s : ByteArray) (i : Nat)
def b (k : Nat) : Nat := (s.get! (i + k)).toNat
theorem b_lt (k : Nat) : b s i k < 256 := (s.get! (i + k)).toNat_lt
theorem bt_b (k : Nat) (h : i + k < s.size) : bt s ((i : Int) + (k : Int)) = (b s i k : Int) := by
  have e : ((i : Int) + (k : Int)).toNat = i + k := by omega
  have hh : ((i : Int) + (k : Int)).toNat < s.size := by omega
  rw [← bt_at s _ hh]
  have : s.get! (i + k) = s[i + k] := by
    simp [ByteArray.get!, getElem!_pos, h]
    rfl
  simp only [b, this, e]

/-- How far the bytes fit. -/
def scan (n lo hi : Nat) : Nat :=
  if s.size - i < n then 1 else if n = 1 then 1 else if b s i 1 < lo ∨ hi < b s i 1 then 1 else if n = 2 then 2 else
  if b s i 2 < 128 ∨ 191 < b s i 2 then 1 else if n = 3 then 3 else if b s i 3 < 128 ∨ 191 < b s i 3 then 1 else 4
variable (hi : i < s.size) (hs : s.size ≤ 1000000000)
include hi hs
theorem l0_stop (n lo hi' k x9 : Nat) (h : n ≤ x9) : strataref16_wide.l0 (k + 1) s (i : Int) (n : Int) (lo : Int) (hi' : Int) (x9 : Int) = some (n : Int) := by
  simp only [strataref16_wide.l0]
  rw [if_neg (by omega)]
theorem l0_step (n lo hi' k x9 : Nat) (h : x9 < n) (hn : i + n ≤ s.size) : strataref16_wide.l0 (k + 1) s (i : Int) (n : Int) (lo : Int) (hi' : Int) (x9 : Int) =
    if b s i x9 < lo ∨ hi' < b s i x9 then some 1 else strataref16_wide.l0 k s (i : Int) (n : Int) ((128 : Nat) : Int) ((191 : Nat) : Int) ((x9 + 1 : Nat) : Int) := by
  have hb := b_lt s i x9
  simp only [strataref16_wide.l0]
  rw [if_pos (by omega), wrap_small (x := (i : Int) + x9) (by omega) (by omega), if_pos (by omega), if_pos (by omega), bt_b s i x9 (by omega), wrap_small (x := (b s i x9 : Int)) (by omega) (by omega), wrap_small (x := (x9 : Int) + 1) (by omega) (by omega)]
  by_cases h1 : b s i x9 < lo
  · rw [if_pos (by omega), if_pos (.inl h1)]
  · rw [if_neg (by omega)]
    by_cases h2 : hi' < b s i x9
    · rw [if_pos (by omega), if_pos (.inr h2)]
    · rw [if_neg (by omega), if_neg (by omega)]; rfl
theorem j3_scan (n lo hi' : Nat) (h1 : 1 ≤ n) (h4 : n ≤ 4) : Ev (fun k => strataref16_wide.j3 k s (i : Int) (n : Int) (lo : Int) (hi' : Int)) (scan s i n lo hi' : Int) := by
  refine ⟨6, fun k hk => ?_⟩
  obtain ⟨k, rfl⟩ : ∃ m, k = m + 6 := ⟨k - 6, by omega⟩
  unfold scan
  simp only [strataref16_wide.j3]
  rw [wrap_small (by omega) (by omega)]
  by_cases hz : s.size - i < n
  · rw [if_pos (by omega), if_pos hz]; rfl
  rw [if_neg (by omega), if_neg hz]
  have e1 : (1 : Int) = ((1 : Nat) : Int) := rfl
  by_cases n1 : n = 1
  · subst n1; rw [if_pos rfl, e1, l0_stop s i hi hs _ _ _ _ _ (Nat.le_refl _)]
  rw [if_neg n1]
  have s1 := l0_step s i hi hs n lo hi' (k + 4) 1 (by omega) (by omega)
  rw [show ((1 : Nat) : Int) = 1 from rfl] at s1
  rw [s1]
  by_cases c1 : b s i 1 < lo ∨ hi' < b s i 1
  · rw [if_pos c1, if_pos c1]; rfl
  rw [if_neg c1, if_neg c1]
  by_cases n2 : n = 2
  · subst n2; rw [if_pos rfl, l0_stop s i hi hs _ _ _ _ _ (Nat.le_refl _)]
  rw [if_neg n2, l0_step s i hi hs n 128 191 (k + 3) 2 (by omega) (by omega)]
  by_cases c2 : b s i 2 < 128 ∨ 191 < b s i 2
  · rw [if_pos c2, if_pos c2]; rfl
  rw [if_neg c2, if_neg c2]
  by_cases n3 : n = 3
  · subst n3; rw [if_pos rfl, l0_stop s i hi hs _ _ _ _ _ (Nat.le_refl _)]
  rw [if_neg n3, l0_step s i hi hs n 128 191 (k + 2) 3 (by omega) (by omega)]
  by_cases c3 : b s i 3 < 128 ∨ 191 < b s i 3
  · rw [if_pos c3, if_pos c3]; rfl
  rw [if_neg c3, if_neg c3]
  obtain rfl : n = 4 := by omega
  rw [l0_stop s i hi hs _ _ _ _ _ (Nat.le_refl _)]

def low (c lo : Nat) : Nat := if c = 224 then 160 else if c = 240 then 144 else lo
def high (c hi' : Nat) : Nat := if c = 237 then 159 else if c = 244 then 143 else hi'
theorem j2_scan (c n : Nat) (h1 : 1 ≤ n) (h4 : n ≤ 4) : Ev (fun k => strataref16_wide.j2 k s (i : Int) (c : Int) (n : Int) 128 191) (scan s i n (low c 128) (high c 191) : Int) := by
  unfold low high
  by_cases e0 : c = 224
  · subst e0
    exact Ev.step (fun k => by simp only [strataref16_wide.j2]; rw [if_pos (by omega)]; rfl) (j3_scan s i hi hs n 160 191 h1 h4)
  by_cases e1 : c = 237
  · subst e1
    exact Ev.step (fun k => by simp only [strataref16_wide.j2]; rw [if_neg (by omega), if_pos (by omega)]; rfl) (j3_scan s i hi hs n 128 159 h1 h4)
  by_cases e2 : c = 240
  · subst e2
    exact Ev.step (fun k => by simp only [strataref16_wide.j2]; rw [if_neg (by omega), if_neg (by omega), if_pos (by omega)]; rfl) (j3_scan s i hi hs n 144 191 h1 h4)
  by_cases e3 : c = 244
  · subst e3
    exact Ev.step (fun k => by simp only [strataref16_wide.j2]; rw [if_neg (by omega), if_neg (by omega), if_neg (by omega), if_pos (by omega)]; rfl) (j3_scan s i hi hs n 128 143 h1 h4)
  rw [if_neg e0, if_neg e2, if_neg e1, if_neg e3]
  exact Ev.step (fun k => by simp only [strataref16_wide.j2]; rw [if_neg (by omega), if_neg (by omega), if_neg (by omega), if_neg (by omega)]; rfl) (j3_scan s i hi hs n 128 191 h1 h4)
def count (c : Nat) : Nat := if 194 ≤ c ∧ c ≤ 223 then 2 else if 224 ≤ c ∧ c ≤ 239 then 3 else if 240 ≤ c ∧ c ≤ 244 then 4 else 1
theorem wide_scan : Ev (fun k => strataref16_wide.f k s (i : Int)) (scan s i (count (b s i 0)) (low (b s i 0) 128) (high (b s i 0) 191) : Int) := by
  have hb0 : bt s (i : Int) = (b s i 0 : Int) := by have := bt_b s i 0 (by omega); simpa using this
  have e : ∀ k, strataref16_wide.f k s (i : Int) = strataref16_wide.j0 k s (i : Int) (b s i 0 : Int) 1 128 191 (decide (194 ≤ b s i 0 ∧ b s i 0 ≤ 223)) := by
    intro k
    unfold strataref16_wide.f
    rw [if_pos (by omega), if_pos (by omega), hb0]
    by_cases h : 194 ≤ b s i 0
    · rw [if_pos (by omega)]
      congr 1
      simp [h]; omega
    · rw [if_neg (by omega)]
      congr 1
      simp [h]
  refine Ev.congr e ?_
  generalize hc : b s i 0 = c
  have hcl : c < 256 := hc ▸ b_lt s i 0
  by_cases h2 : 194 ≤ c ∧ c ≤ 223
  · have h := j2_scan s i hi hs c 2 (by omega) (by omega)
    rw [show count c = 2 by unfold count; rw [if_pos h2]]
    refine Ev.step (fun k => ?_) h
    simp only [strataref16_wide.j0]; rw [if_pos (by simpa using h2)]; rfl
  have d2 : decide (194 ≤ c ∧ c ≤ 223) = false := decide_eq_false h2
  rw [d2]
  by_cases h3 : 224 ≤ c ∧ c ≤ 239
  · have h := j2_scan s i hi hs c 3 (by omega) (by omega)
    rw [show count c = 3 by unfold count; rw [if_neg h2, if_pos h3]]
    refine Ev.step (f := fun k => strataref16_wide.j1 k s (i : Int) (c : Int) 1 128 191 true) (fun k => ?_) (Ev.step (fun k => ?_) h)
    · simp only [strataref16_wide.j0]; rw [if_neg (by simp), if_pos (by omega)]; congr 1; simp; omega
    · simp only [strataref16_wide.j1]; rw [if_pos trivial]; rfl
  have j1f : ∀ k, strataref16_wide.j0 (k + 1) s (i : Int) (c : Int) 1 128 191 false = strataref16_wide.j1 k s (i : Int) (c : Int) 1 128 191 false := by
    intro k
    simp only [strataref16_wide.j0]; rw [if_neg (by simp)]
    by_cases h : 224 ≤ c
    · rw [if_pos (by omega)]; congr 1; simp; omega
    · rw [if_neg (by omega)]
  by_cases h4 : 240 ≤ c ∧ c ≤ 244
  · have h := j2_scan s i hi hs c 4 (by omega) (by omega)
    rw [show count c = 4 by unfold count; rw [if_neg h2, if_neg h3, if_pos h4]]
    refine Ev.step j1f (Ev.step (fun k => ?_) h)
    simp only [strataref16_wide.j1]; rw [if_neg (by simp), if_pos (by omega), if_pos (by omega)]; rfl
  · have h := j2_scan s i hi hs c 1 (by omega) (by omega)
    rw [show count c = 1 by unfold count; rw [if_neg h2, if_neg h3, if_neg h4]]
    refine Ev.step j1f (Ev.step (fun k => ?_) h)
    simp only [strataref16_wide.j1]; rw [if_neg (by simp)]
    by_cases h5 : 240 ≤ c
    · rw [if_pos (by omega), if_neg (by omega)]; rfl
    · rw [if_neg (by omega)]; rfl

/-- The width of a character, told by numbers: the model's own. -/
def dec (z i c0 c1 c2 c3 : Nat) : Nat :=
  if c0 < 128 then 1
  else if c0 / 32 = 6 ∧ i + 1 < z ∧ c1 / 64 = 2 then (if c0 % 32 * 64 + c1 % 64 ≥ 128 then 2 else 1)
  else if c0 / 16 = 14 ∧ (i + 1 < z ∧ c1 / 64 = 2) ∧ (i + 2 < z ∧ c2 / 64 = 2) then
    (if c0 % 16 * 4096 + c1 % 64 * 64 + c2 % 64 ≥ 2048 ∧ (c0 % 16 * 4096 + c1 % 64 * 64 + c2 % 64 < 55296 ∨ 57344 ≤ c0 % 16 * 4096 + c1 % 64 * 64 + c2 % 64) then 3 else 1)
  else if c0 / 8 = 30 ∧ (i + 1 < z ∧ c1 / 64 = 2) ∧ (i + 2 < z ∧ c2 / 64 = 2) ∧ (i + 3 < z ∧ c3 / 64 = 2) then
    (if c0 % 8 * 262144 + c1 % 64 * 4096 + c2 % 64 * 64 + c3 % 64 ≥ 65536 ∧ c0 % 8 * 262144 + c1 % 64 * 4096 + c2 % 64 * 64 + c3 % 64 ≤ 1114111 then 4 else 1)
  else 1
omit hi hs in
set_option maxRecDepth 20000 in
theorem decode_dec : (Utf8.decode s i).2 = dec s.size i (b s i 0) (b s i 1) (b s i 2) (b s i 3) := by
  have h1 := b_lt s i 1; have h2 := b_lt s i 2; have h3 := b_lt s i 3; have h0 := b_lt s i 0
  unfold Utf8.decode dec
  dsimp only
  simp only [show (s.get! (i + 0)).toNat = b s i 0 from rfl, show (s.get! (i + 1)).toNat = b s i 1 from rfl, show (s.get! (i + 2)).toNat = b s i 2 from rfl, show (s.get! (i + 3)).toNat = b s i 3 from rfl]
  generalize b s i 0 = c0 at *
  generalize b s i 1 = c1 at *
  generalize b s i 2 = c2 at *
  generalize b s i 3 = c3 at *
  by_cases a0 : c0 < 128
  · rw [if_pos a0, if_pos a0]
  rw [if_neg a0, if_neg a0]
  by_cases a1 : c0 / 32 = 6 ∧ i + 1 < s.size ∧ c1 / 64 = 2
  · rw [if_pos a1, if_pos (by rw [a1.1, a1.2.2, decide_eq_true a1.2.1]; rfl)]
    split <;> rfl
  rw [if_neg a1, if_neg (by intro h; simp only [Bool.and_eq_true, decide_eq_true_eq, beq_iff_eq] at h; exact a1 h)]
  by_cases a2 : c0 / 16 = 14 ∧ (i + 1 < s.size ∧ c1 / 64 = 2) ∧ (i + 2 < s.size ∧ c2 / 64 = 2)
  · rw [if_pos a2, if_pos (by rw [a2.1, a2.2.1.2, a2.2.2.2, decide_eq_true a2.2.1.1, decide_eq_true a2.2.2.1]; rfl)]
    generalize hq : c0 % 16 * 4096 + c1 % 64 * 64 + c2 % 64 = q
    have hv : (decide (q ≥ 2048) && Utf8.valid (q : Int)) = true ↔ (q ≥ 2048 ∧ (q < 55296 ∨ 57344 ≤ q)) := by
      unfold Utf8.valid
      rw [Bool.and_eq_true, Bool.or_eq_true, Bool.and_eq_true, Bool.and_eq_true, decide_eq_true_iff, decide_eq_true_iff, decide_eq_true_iff, decide_eq_true_iff, decide_eq_true_iff]
      omega
    by_cases e : q ≥ 2048 ∧ (q < 55296 ∨ 57344 ≤ q)
    · rw [if_pos e, if_pos (hv.2 e)]
    · rw [if_neg e, if_neg (fun h => e (hv.1 h))]
  rw [if_neg a2, if_neg (by intro h; simp only [Bool.and_eq_true, decide_eq_true_eq, beq_iff_eq] at h; exact a2 ⟨h.1.1, h.1.2, h.2⟩)]
  by_cases a3 : c0 / 8 = 30 ∧ (i + 1 < s.size ∧ c1 / 64 = 2) ∧ (i + 2 < s.size ∧ c2 / 64 = 2) ∧ (i + 3 < s.size ∧ c3 / 64 = 2)
  · rw [if_pos a3, if_pos (by rw [a3.1, a3.2.1.2, a3.2.2.1.2, a3.2.2.2.2, decide_eq_true a3.2.1.1, decide_eq_true a3.2.2.1.1, decide_eq_true a3.2.2.2.1]; rfl)]
    generalize hq : c0 % 8 * 262144 + c1 % 64 * 4096 + c2 % 64 * 64 + c3 % 64 = q
    have hv : (decide (q ≥ 65536) && Utf8.valid (q : Int)) = true ↔ (q ≥ 65536 ∧ q ≤ 1114111) := by
      unfold Utf8.valid
      rw [Bool.and_eq_true, Bool.or_eq_true, Bool.and_eq_true, Bool.and_eq_true, decide_eq_true_iff, decide_eq_true_iff, decide_eq_true_iff, decide_eq_true_iff, decide_eq_true_iff]
      omega
    by_cases e : q ≥ 65536 ∧ q ≤ 1114111
    · rw [if_pos e, if_pos (hv.2 e)]
    · rw [if_neg e, if_neg (fun h => e (hv.1 h))]
  rw [if_neg a3, if_neg (by intro h; simp only [Bool.and_eq_true, decide_eq_true_eq, beq_iff_eq] at h; exact a3 ⟨h.1.1.1, h.1.1.2, h.1.2, h.2⟩)]
omit hi hs in
theorem scan_dec (z c0 c1 c2 c3 : Nat) (hz : i < z) (h0 : c0 < 256) (h1 : c1 < 256) (h2 : c2 < 256) (h3 : c3 < 256) :
    (if z - i < count c0 then 1 else if count c0 = 1 then 1 else if c1 < low c0 128 ∨ high c0 191 < c1 then 1 else if count c0 = 2 then 2 else
      if c2 < 128 ∨ 191 < c2 then 1 else if count c0 = 3 then 3 else if c3 < 128 ∨ 191 < c3 then 1 else 4) = dec z i c0 c1 c2 c3 := by
  unfold dec
  by_cases a0 : c0 < 194
  · have e : count c0 = 1 := by unfold count; rw [if_neg (by omega), if_neg (by omega), if_neg (by omega)]
    rw [e, if_neg (by omega), if_pos rfl]
    by_cases b0 : c0 < 128
    · rw [if_pos b0]
    · rw [if_neg b0]
      by_cases b1 : c0 / 32 = 6 ∧ i + 1 < z ∧ c1 / 64 = 2
      · rw [if_pos b1, if_neg (by omega)]
      · rw [if_neg b1, if_neg (by omega), if_neg (by omega)]
  by_cases a1 : c0 ≤ 223
  · have e : count c0 = 2 := by unfold count; rw [if_pos (by omega)]
    have el : low c0 128 = 128 := by unfold low; rw [if_neg (by omega), if_neg (by omega)]
    have eh : high c0 191 = 191 := by unfold high; rw [if_neg (by omega), if_neg (by omega)]
    rw [e, el, eh, if_neg (show ¬ c0 < 128 by omega), if_neg (show ¬ ((2 : Nat) = 1) by omega), if_pos (show (2 : Nat) = 2 from rfl)]
    by_cases b1 : c0 / 32 = 6 ∧ i + 1 < z ∧ c1 / 64 = 2
    · rw [if_pos b1, if_neg (by omega), if_neg (by omega), if_pos (by omega)]
    · rw [if_neg b1, if_neg (show ¬ (c0 / 16 = 14 ∧ _) by omega), if_neg (show ¬ (c0 / 8 = 30 ∧ _) by omega)]
      split
      · rfl
      · rw [if_pos (by omega)]
  have hlo : (c0 = 224 ∧ low c0 128 = 160) ∨ (c0 = 240 ∧ low c0 128 = 144) ∨ (c0 ≠ 224 ∧ c0 ≠ 240 ∧ low c0 128 = 128) := by
    unfold low; repeat' split
    all_goals omega
  have hhi : (c0 = 237 ∧ high c0 191 = 159) ∨ (c0 = 244 ∧ high c0 191 = 143) ∨ (c0 ≠ 237 ∧ c0 ≠ 244 ∧ high c0 191 = 191) := by
    unfold high; repeat' split
    all_goals omega
  generalize low c0 128 = lo at *
  generalize high c0 191 = hi at *
  by_cases a2 : c0 ≤ 239
  · have e : count c0 = 3 := by unfold count; rw [if_neg (by omega), if_pos (by omega)]
    rw [e, if_neg (show ¬ c0 < 128 by omega), if_neg (show ¬ ((3 : Nat) = 1) by omega), if_neg (show ¬ ((3 : Nat) = 2) by omega), if_pos (show (3 : Nat) = 3 from rfl), if_neg (show ¬ (c0 / 32 = 6 ∧ _) by omega), if_neg (show ¬ (c0 / 8 = 30 ∧ _) by omega)]
    repeat' split
    all_goals omega
  by_cases a3 : c0 ≤ 244
  · have e : count c0 = 4 := by unfold count; rw [if_neg (by omega), if_neg (by omega), if_pos (by omega)]
    rw [e, if_neg (show ¬ c0 < 128 by omega), if_neg (show ¬ ((4 : Nat) = 1) by omega), if_neg (show ¬ ((4 : Nat) = 2) by omega), if_neg (show ¬ ((4 : Nat) = 3) by omega), if_neg (show ¬ (c0 / 32 = 6 ∧ _) by omega), if_neg (show ¬ (c0 / 16 = 14 ∧ _) by omega)]
    repeat' split
    all_goals omega
  · have e : count c0 = 1 := by unfold count; rw [if_neg (by omega), if_neg (by omega), if_neg (by omega)]
    rw [e, if_neg (by omega), if_pos rfl, if_neg (show ¬ c0 < 128 by omega), if_neg (show ¬ (c0 / 32 = 6 ∧ _) by omega), if_neg (show ¬ (c0 / 16 = 14 ∧ _) by omega)]
    by_cases b1 : c0 / 8 = 30 ∧ (i + 1 < z ∧ c1 / 64 = 2) ∧ (i + 2 < z ∧ c2 / 64 = 2) ∧ (i + 3 < z ∧ c3 / 64 = 2)
    · rw [if_pos b1, if_neg (by omega)]
    · rw [if_neg b1]
omit hs in
theorem scan_decode : scan s i (count (b s i 0)) (low (b s i 0) 128) (high (b s i 0) 191) = (Utf8.decode s i).2 := by
  rw [decode_dec]
  exact scan_dec i s.size _ _ _ _ hi (b_lt s i 0) (b_lt s i 1) (b_lt s i 2) (b_lt s i 3)

theorem wide_eq : Ev (fun k => strataref16_wide.f k s (i : Int)) ((Utf8.decode s i).2 : Int) := by
  have h := wide_scan s i hi hs
  rw [scan_decode s i hi] at h
  exact h
theorem decode_fits : 1 ≤ (Utf8.decode s i).2 ∧ i + (Utf8.decode s i).2 ≤ s.size := by
  rw [← scan_decode s i hi]
  unfold scan count
  repeat' split
  all_goals omega
end

/-! ### Cutting -/
def cuts (s : ByteArray) : Nat → Nat → List ByteArray
  | 0, _ => []
  | k + 1, i => if i < s.size then s.extract i (i + (Utf8.decode s i).2) :: cuts s k (i + (Utf8.decode s i).2) else []
section
variable (s : ByteArray) (hs : s.size ≤ 1000000000)
include hs
theorem cuts_len : ∀ k i, i ≤ s.size → (cuts s k i).length ≤ s.size - i := by
  intro k
  induction k with
  | zero => intro i _; simp [cuts]
  | succ k ih =>
    intro i hi
    unfold cuts
    split
    · rename_i h
      have hf := decode_fits s i h hs
      have := ih (i + (Utf8.decode s i).2) hf.2
      simp only [List.length_cons]
      omega
    · simp
theorem ref_cuts : ∀ (d i : Nat) (out : List ByteArray), i ≤ s.size → s.size - i ≤ d → out.length ≤ i → Ev (fun k => strataref16_Characters.l0 k s out (i : Int)) (out ++ cuts s d i) := by
  intro d
  induction d with
  | zero =>
    intro i out hi hd ho
    refine Ev.step (f := fun _ => some (out ++ cuts s 0 i)) (fun k => ?_) (Ev.now _)
    simp only [strataref16_Characters.l0]; rw [if_neg (by omega)]; simp [cuts]
  | succ d ih =>
    intro i out hi hd ho
    by_cases h : i < s.size
    · have hf := decode_fits s i h hs
      have hw : wrap64 ((i : Int) + ((Utf8.decode s i).2 : Int)) = ((i + (Utf8.decode s i).2 : Nat) : Int) := by rw [wrap_small (by omega) (by omega)]; rfl
      unfold cuts
      rw [if_pos h]
      have hih := ih (i + (Utf8.decode s i).2) (out ++ [s.extract i (i + (Utf8.decode s i).2)]) hf.2 (by omega) (by simp; omega)
      rw [List.append_assoc] at hih
      refine Ev.step (f := fun k => (strataref16_wide.f k s (i : Int)).bind fun t => (if 0 ≤ (i : Int) then (if (i : Int) ≤ (wrap64 (i + t)) then (if (wrap64 (i + t)) ≤ (s.size : Int) then (if out.length < 8796093022208 then (strataref16_Characters.l0 k s (out ++ [s.extract (i : Int).toNat ((wrap64 (i + t)) : Int).toNat]) (wrap64 (i + t))) else (none)) else (none)) else (none)) else (none))) (fun k => ?_)
        (Ev.bind (wide_eq s i h hs) (Ev.congr (fun k => ?_) hih))
      · simp only [strataref16_Characters.l0]; rw [if_pos (by omega)]
      · rw [hw, if_pos (by omega), if_pos (by omega), if_pos (by omega), if_pos (by omega)]
        simp only [Int.toNat_natCast]
    · refine Ev.step (f := fun _ => some (out ++ cuts s (d + 1) i)) (fun k => ?_) (Ev.now _)
      simp only [strataref16_Characters.l0]; rw [if_neg (by omega)]; simp [cuts, h]
theorem plan_cuts : ∀ (d from_ : Nat) (out : List ByteArray), from_ < s.size → s.size - (from_ + (Utf8.decode s from_).2) ≤ d → out.length ≤ from_ →
    Ev (fun k => plan_characters.l0 k s out from_ (from_ + (Utf8.decode s from_).2)) (out ++ s.extract from_ (from_ + (Utf8.decode s from_).2) :: cuts s d (from_ + (Utf8.decode s from_).2)) := by
  intro d
  induction d with
  | zero =>
    intro from_ out hf0 hd ho
    have hf := decode_fits s from_ hf0 hs
    have he : from_ + (Utf8.decode s from_).2 = s.size := by omega
    refine Ev.step (f := fun _ => some _) (fun k => ?_) (Ev.now _)
    simp only [plan_characters.l0]
    rw [if_neg (by omega), if_pos (by omega), if_pos hf0, he]
    simp [cuts]
  | succ d ih =>
    intro from_ out hf0 hd ho
    have hf := decode_fits s from_ hf0 hs
    by_cases h : from_ + (Utf8.decode s from_).2 < s.size
    · have hf2 := decode_fits s _ h hs
      have hih := ih (from_ + (Utf8.decode s from_).2) (out ++ [s.extract from_ (from_ + (Utf8.decode s from_).2)]) h (by omega) (by simp; omega)
      rw [List.append_assoc] at hih
      unfold cuts
      rw [if_pos h]
      refine Ev.step (fun k => ?_) hih
      simp only [plan_characters.l0]
      rw [if_pos h, if_pos (by omega), if_pos (by omega)]
    · have he : from_ + (Utf8.decode s from_).2 = s.size := by omega
      refine Ev.step (f := fun _ => some _) (fun k => ?_) (Ev.now _)
      simp only [plan_characters.l0]
      rw [if_neg h, if_pos (by omega), if_pos hf0, he]
      simp [cuts]
theorem ref_chars : Ev (fun k => strataref16_Characters.f k s) (cuts s s.size 0) := by
  have h := ref_cuts s hs s.size 0 [] (by omega) (by omega) (by simp)
  exact h
theorem plan_chars : Ev (fun k => plan_characters.f k s) (cuts s s.size 0) := by
  refine Ev.congr (f := fun k => plan_characters.l0 k s [] 0 0) (fun k => by unfold plan_characters.f; rw [if_pos hs]) ?_
  rcases Nat.eq_zero_or_pos s.size with h0 | h0
  · refine Ev.step (f := fun _ => some _) (fun k => ?_) (Ev.now _)
    simp only [plan_characters.l0]
    rw [if_neg (by omega), if_pos (by simp), if_neg (by omega), h0]
    simp [cuts]
  · have h := plan_cuts s hs (s.size - 1) 0 [] h0 (by have := decode_fits s 0 h0 hs; omega) (by simp)
    obtain ⟨n, hn⟩ : ∃ n, s.size = n + 1 := ⟨s.size - 1, by omega⟩
    rw [hn]
    unfold cuts
    rw [if_pos h0]
    have e : s.size - 1 = n := by omega
    rw [e] at h
    simp only [Nat.zero_add, List.nil_append] at h ⊢
    refine Ev.step (fun k => ?_) h
    simp only [plan_characters.l0]
    rw [if_pos h0, if_pos (by simp), if_neg (by omega)]
    simp
end
end Go.Proofs.Ytggbhdcgfnjogaa.CharLaw
