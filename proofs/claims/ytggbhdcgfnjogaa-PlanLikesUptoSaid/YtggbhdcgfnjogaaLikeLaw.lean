/- The plain law of LIKE: what a text is like, told of lists; the greedy search and the table of all beginnings answer the same. -/
import Derived.Test.YtggbhdcgfnjogaaPLkx4
set_option linter.unusedSectionVars false
set_option linter.unusedVariables false
namespace Go.Proofs.Ytggbhdcgfnjogaa.LikeLaw
open Go.RowKit Go.Proofs.Ytggbhdcgfnjogaa.PLk Go.Proofs.YtggbhdcgfnjogaaW.PrintWords Go.Proofs.YtggbhdcgfnjogaaW.PrintLast

abbrev Ch := List UInt8
abbrev pct : Ch := [37]
abbrev us : Ch := [95]
theorem us_ne : us ≠ pct := by decide

/-- A list of characters is like a pattern. -/
inductive M : List Ch → List Ch → Prop
  | nil : M [] []
  | star (s t p : List Ch) : M t p → M (s ++ t) (pct :: p)
  | one (x : Ch) (t : List Ch) (c : Ch) (p : List Ch) : c ≠ pct → (c = us ∨ c = x) → M t p → M (x :: t) (c :: p)

theorem M_nil {t : List Ch} : M t [] ↔ t = [] := ⟨fun h => by cases h; rfl, fun h => h ▸ M.nil⟩
theorem M_star {t p : List Ch} : M t (pct :: p) ↔ ∃ i, i ≤ t.length ∧ M (t.drop i) p := by
  constructor
  · generalize hq : pct :: p = q
    intro h
    cases h with
    | nil => cases hq
    | star s t' p' h => cases hq; exact ⟨s.length, by simp, by simpa using h⟩
    | one x t' c p' hc => injection hq with h1 h2; exact absurd h1.symm hc
  · rintro ⟨i, hi, h⟩
    have := M.star (t.take i) _ _ h
    rwa [List.take_append_drop] at this
theorem M_one {t p : List Ch} {c : Ch} (hc : c ≠ pct) : M t (c :: p) ↔ ∃ x t', t = x :: t' ∧ (c = us ∨ c = x) ∧ M t' p := by
  constructor
  · intro h
    generalize hq : c :: p = q at h
    cases h with
    | nil => cases hq
    | star s t' p' h => injection hq with h1 h2; exact absurd h1 hc
    | one x t' c' p' hc' h1 h2 => injection hq with e1 e2; subst e1; subst e2; exact ⟨x, t', rfl, h1, h2⟩
  · rintro ⟨x, t', rfl, h1, h2⟩
    exact M.one _ _ _ _ hc h1 h2
theorem M_append {p q : List Ch} : ∀ {t : List Ch}, M t (p ++ q) ↔ ∃ i, i ≤ t.length ∧ M (t.take i) p ∧ M (t.drop i) q := by
  induction p with
  | nil =>
    intro t
    simp only [List.nil_append, M_nil]
    constructor
    · intro h; exact ⟨0, Nat.zero_le _, by simp, by simpa using h⟩
    · rintro ⟨i, hi, h1, h2⟩
      have : i = 0 ∨ t = [] := by
        rcases List.take_eq_nil_iff.1 h1 with h | h
        · exact .inl h
        · exact .inr h
      rcases this with rfl | rfl
      · simpa using h2
      · simpa using h2
  | cons c p ih =>
    intro t
    by_cases hc : c = pct
    · subst hc
      simp only [List.cons_append, M_star]
      constructor
      · rintro ⟨i, hi, h⟩
        obtain ⟨j, hj, h1, h2⟩ := ih.1 h
        simp only [List.length_drop] at hj
        refine ⟨i + j, by omega, ⟨i, by simp; omega, ?_⟩, by simpa [List.drop_drop, Nat.add_comm] using h2⟩
        rw [List.drop_take]
        simpa using h1
      · rintro ⟨i, hi, ⟨j, hj, h1⟩, h2⟩
        simp only [List.length_take] at hj
        refine ⟨j, by omega, ih.2 ⟨i - j, by simp; omega, ?_, ?_⟩⟩
        · rw [List.drop_take] at h1; exact h1
        · rw [List.drop_drop]; rwa [show j + (i - j) = i by omega]
    · simp only [List.cons_append, M_one hc]
      constructor
      · rintro ⟨x, t', rfl, h1, h2⟩
        obtain ⟨j, hj, h3, h4⟩ := ih.1 h2
        exact ⟨j + 1, by simp; omega, ⟨x, t'.take j, by simp, h1, h3⟩, by simpa using h4⟩
      · rintro ⟨i, hi, ⟨x, t', he, h1, h2⟩, h3⟩
        cases t with
        | nil => simp at he
        | cons y t =>
          cases i with
          | zero => simp at he
          | succ i =>
            simp only [List.take_succ_cons, List.cons.injEq] at he
            obtain ⟨rfl, rfl⟩ := he
            exact ⟨y, t, rfl, h1, ih.2 ⟨i, by simpa using hi, h2, by simpa using h3⟩⟩

/-- Of the beginning of i characters and the first j of the pattern. -/
def C (T P : List Ch) (j i : Nat) : Prop := M (T.take i) (P.take j)
theorem take_snoc {P : List Ch} {j : Nat} (h : j < P.length) : P.take (j + 1) = P.take j ++ [P[j]] := by
  rw [List.take_succ_eq_append_getElem h]
theorem C_star {T P : List Ch} {j i : Nat} (hj : j < P.length) (hp : P[j] = pct) (hi : i ≤ T.length) : C T P (j + 1) i ↔ ∃ i', i' ≤ i ∧ C T P j i' := by
  unfold C
  rw [take_snoc hj, hp, M_append]
  constructor
  · rintro ⟨k, hk, h1, _⟩
    simp only [List.length_take] at hk
    refine ⟨k, by omega, ?_⟩
    rwa [List.take_take, Nat.min_eq_left (by omega)] at h1
  · rintro ⟨k, hk, h1⟩
    refine ⟨k, by simp; omega, ?_, M_star.2 ⟨_, Nat.le_refl _, by simp [M_nil]; omega⟩⟩
    rwa [List.take_take, Nat.min_eq_left hk]
theorem C_one {T P : List Ch} {j i : Nat} (hj : j < P.length) (hp : P[j] ≠ pct) (hi : i < T.length) : C T P (j + 1) (i + 1) ↔ C T P j i ∧ (P[j] = us ∨ P[j] = T[i]) := by
  unfold C
  rw [take_snoc hj, M_append]
  have hd : (T.take (i + 1)).drop i = [T[i]] := by
    rw [take_snoc hi, List.drop_append_of_le_length (by simp; omega)]
    simp
  constructor
  · rintro ⟨k, hk, h1, h2⟩
    simp only [List.length_take] at hk
    obtain ⟨x, t', he, h3, h4⟩ := (M_one hp).1 h2
    rw [M_nil] at h4
    subst h4
    have hl := congrArg List.length he
    simp only [List.length_drop, List.length_take, List.length_cons, List.length_nil] at hl
    obtain rfl : k = i := by omega
    rw [hd] at he
    injection he with he
    rw [List.take_take, Nat.min_eq_left (by omega)] at h1
    exact ⟨h1, by rw [he]; exact h3⟩
  · rintro ⟨h1, h2⟩
    refine ⟨i, by simp; omega, ?_, ?_⟩
    · rwa [List.take_take, Nat.min_eq_left (by omega)]
    · rw [hd]; exact (M_one hp).2 ⟨_, [], rfl, h2, M.nil⟩
theorem C_one_zero {T P : List Ch} {j : Nat} (hj : j < P.length) (hp : P[j] ≠ pct) : ¬ C T P (j + 1) 0 := by
  unfold C
  rw [take_snoc hj, M_append]
  rintro ⟨k, hk, _, h2⟩
  obtain ⟨x, t', he, _⟩ := (M_one hp).1 h2
  simp at he
theorem C_zero {T P : List Ch} {i : Nat} (hi : i ≤ T.length) : C T P 0 i ↔ i = 0 := by
  unfold C
  simp only [List.take_zero, M_nil, List.take_eq_nil_iff]
  constructor
  · rintro (h | h)
    · exact h
    · subst h; simp at hi; exact hi
  · exact fun h => .inl h
theorem C_all {T P : List Ch} : C T P P.length T.length ↔ M T P := by simp [C]

/-! ### The table of all beginnings -/
theorem wrap_small {x : Int} (h0 : 0 ≤ x) (h : x < 9000000000000000000) : wrap64 x = x := by unfold wrap64; omega
def ch (l : List ByteArray) : List Ch := l.map ByteArray.toList
theorem ch_at {l : List ByteArray} {i : Nat} (h : i < l.length) : (rdOf ByteArray.empty l (i : Int)).toList = (ch l)[i]'(by simpa [ch] using h) := by
  simp [rdOf, ch, List.getD_eq_getElem?_getD, h]
def Row (T P : List Ch) (j : Nat) (can : List Bool) : Prop := can.length = T.length + 1 ∧ ∀ i, i ≤ T.length → (can[i]?.getD false = true ↔ C T P j i)
theorem rd_bool (l : List Bool) (i : Nat) : rdOf false l (i : Int) = l[i]?.getD false := by simp [rdOf, List.getD_eq_getElem?_getD]

noncomputable def yes (p : Prop) : Bool := @decide p (Classical.propDecidable p)
theorem yes_iff {p : Prop} : yes p = true ↔ p := by unfold yes; exact @decide_eq_true_iff p (Classical.propDecidable p)
theorem yes_congr {p q : Prop} (h : p ↔ q) : yes p = yes q := by
  rw [Bool.eq_iff_iff, yes_iff, yes_iff]; exact h
theorem yes_eq {b : Bool} {p : Prop} (h : b = true ↔ p) : b = yes p := by
  rw [Bool.eq_iff_iff, yes_iff]; exact h
theorem set_getD (l : List Bool) (i k : Nat) (b : Bool) (h : i < l.length) : (l.set i b)[k]?.getD false = if k = i then b else l[k]?.getD false := by
  rw [List.getElem?_set]
  by_cases e : k = i
  · subst e; simp [h]
  · rw [if_neg (fun h => e h.symm), if_neg e]

section
variable (t p : List ByteArray) (ht : t.length ≤ 1000000000) (hp : p.length ≤ 1000000000)
include ht hp
theorem ref_l1 (can : List Bool) (j : Nat) (hj : j < p.length) (hc : (ch p)[j]'(by simpa [ch] using hj) = pct) (hcan : Row (ch t) (ch p) j can)
    (next : ∀ can', Row (ch t) (ch p) (j + 1) can' → Ev (fun k => strataref16_Like.l0 k t p can' ((j + 1 : Nat) : Int)) (yes (M (ch t) (ch p)))) :
    ∀ (d i : Nat) (x9 : List Bool) (seen : Bool), i + d = t.length + 1 → x9.length = t.length + 1 → (∀ i', i' < i → (x9[i']?.getD false = true ↔ C (ch t) (ch p) (j + 1) i')) → (seen = true ↔ ∃ i', i' < i ∧ C (ch t) (ch p) j i') →
      Ev (fun k => strataref16_Like.l1 k t p can (j : Int) x9 seen (i : Int)) (yes (M (ch t) (ch p))) := by
  have hlt : (ch t).length = t.length := by simp [ch]
  have hlp : (ch p).length = p.length := by simp [ch]
  intro d
  induction d with
  | zero =>
    intro i x9 seen hd hl hx hs
    refine Ev.step (f := fun k => strataref16_Like.l0 k t p x9 ((j + 1 : Nat) : Int)) (fun k => ?_) (next x9 ⟨by rw [hl, hlt], fun i' hi' => hx i' (by omega)⟩)
    simp only [strataref16_Like.l1]
    rw [if_neg (by omega), wrap_small (by omega) (by omega)]
    rfl
  | succ d ih =>
    intro i x9 seen hd hl hx hs
    have hw : wrap64 ((i : Int) + 1) = ((i + 1 : Nat) : Int) := by rw [wrap_small (by omega) (by omega)]; rfl
    cases seen with
    | true =>
      refine Ev.step (f := fun k => strataref16_Like.l1 k t p can (j : Int) (x9.set i true) true ((i + 1 : Nat) : Int)) (fun k => ?_) (ih (i + 1) _ _ (by omega) (by simpa using hl) ?_ ?_)
      · simp only [strataref16_Like.l1]
        rw [if_pos (by omega), if_pos trivial, if_pos (by omega), if_pos (by omega), hw]
        rfl
      · intro i' hi'
        rw [set_getD _ _ _ _ (by omega)]
        split
        · rename_i e; subst e
          simp only [true_iff]
          rw [C_star (by rw [hlp]; exact hj) hc (by omega)]
          obtain ⟨i2, h2, h3⟩ := hs.1 rfl
          exact ⟨i2, by omega, h3⟩
        · exact hx i' (by omega)
      · simp only [true_iff]
        obtain ⟨i2, h2, h3⟩ := hs.1 rfl
        exact ⟨i2, by omega, h3⟩
    | false =>
      have hno : ¬ ∃ i', i' < i ∧ C (ch t) (ch p) j i' := fun h => by have := hs.2 h; cases this
      have hci := hcan.2 i (by omega)
      refine Ev.step (f := fun k => strataref16_Like.l1 k t p can (j : Int) (x9.set i (can[i]?.getD false)) (can[i]?.getD false) ((i + 1 : Nat) : Int)) (fun k => ?_) (ih (i + 1) _ _ (by omega) (by simpa using hl) ?_ ?_)
      · simp only [strataref16_Like.l1]
        have hcl := hcan.1
        rw [if_pos (by omega), if_neg (by simp), if_pos (by omega), if_pos (by omega), if_pos (by omega), hw, rd_bool]
        rfl
      · intro i' hi'
        rw [set_getD _ _ _ _ (by omega)]
        split
        · rename_i e; subst e
          rw [hci, C_star (by rw [hlp]; exact hj) hc (by omega)]
          constructor
          · intro h; exact ⟨i', Nat.le_refl _, h⟩
          · rintro ⟨i2, h2, h3⟩
            rcases Nat.lt_or_ge i2 i' with h | h
            · exact absurd ⟨i2, h, h3⟩ hno
            · obtain rfl : i2 = i' := by omega
              exact h3
        · exact hx i' (by omega)
      · rw [hci]
        constructor
        · intro h; exact ⟨i, by omega, h⟩
        · rintro ⟨i2, h2, h3⟩
          rcases Nat.lt_or_ge i2 i with h | h
          · exact absurd ⟨i2, h, h3⟩ hno
          · obtain rfl : i2 = i := by omega
            exact h3

theorem ref_l2 (can : List Bool) (j : Nat) (hj : j < p.length) (hc : (ch p)[j]'(by simpa [ch] using hj) ≠ pct) (hcan : Row (ch t) (ch p) j can)
    (next : ∀ can', Row (ch t) (ch p) (j + 1) can' → Ev (fun k => strataref16_Like.l0 k t p can' ((j + 1 : Nat) : Int)) (yes (M (ch t) (ch p)))) :
    ∀ (d i : Nat) (x9 : List Bool), i + d = t.length → x9.length = t.length + 1 → (∀ i', i' ≤ i → (x9[i']?.getD false = true ↔ C (ch t) (ch p) (j + 1) i')) →
      Ev (fun k => strataref16_Like.l2 k t p can (j : Int) x9 (i : Int)) (yes (M (ch t) (ch p))) := by
  have hlt : (ch t).length = t.length := by simp [ch]
  have hlp : (ch p).length = p.length := by simp [ch]
  intro d
  induction d with
  | zero =>
    intro i x9 hd hl hx
    refine Ev.step (f := fun k => strataref16_Like.l0 k t p x9 ((j + 1 : Nat) : Int)) (fun k => ?_) (next x9 ⟨by rw [hl, hlt], fun i' hi' => hx i' (by omega)⟩)
    simp only [strataref16_Like.l2]
    rw [if_neg (by omega), wrap_small (by omega) (by omega)]
    rfl
  | succ d ih =>
    intro i x9 hd hl hx
    have hw : wrap64 ((i : Int) + 1) = ((i + 1 : Nat) : Int) := by rw [wrap_small (by omega) (by omega)]; rfl
    have hcl := hcan.1
    have hci := hcan.2 i (by omega)
    have hco := C_one (T := ch t) (P := ch p) (j := j) (i := i) (by rw [hlp]; exact hj) hc (by omega)
    have key : ∀ b : Bool, (b = true ↔ C (ch t) (ch p) (j + 1) (i + 1)) → Ev (fun k => strataref16_Like.l2 k t p can (j : Int) (x9.set (i + 1) b) ((i + 1 : Nat) : Int)) (yes (M (ch t) (ch p))) := by
      intro b hb
      refine ih (i + 1) _ (by omega) (by simpa using hl) ?_
      intro i' hi'
      rw [set_getD _ _ _ _ (by omega)]
      split
      · rename_i e; subst e; exact hb
      · exact hx i' (by omega)
    by_cases hcb : can[i]?.getD false = true
    · by_cases hu : (ch p)[j]'(by rw [hlp]; exact hj) = us
      · refine Ev.step (f := fun k => strataref16_Like.l2 k t p can (j : Int) (x9.set (i + 1) true) ((i + 1 : Nat) : Int)) (fun k => ?_) (key true ?_)
        · simp only [strataref16_Like.l2]
          rw [if_pos (by omega), if_pos (by omega), if_pos (by omega), rd_bool, if_pos hcb, if_pos (by omega), if_pos (by omega), ch_at hj, if_pos hu, hw, if_pos (by omega), if_pos (by omega)]
          rfl
        · simp only [true_iff]; rw [hco]; exact ⟨hci.1 hcb, .inl hu⟩
      · refine Ev.step (f := fun k => strataref16_Like.l2 k t p can (j : Int) (x9.set (i + 1) ((ch p)[j]'(by rw [hlp]; exact hj) == (ch t)[i]'(by omega))) ((i + 1 : Nat) : Int)) (fun k => ?_) (key _ ?_)
        · simp only [strataref16_Like.l2]
          rw [if_pos (by omega), if_pos (by omega), if_pos (by omega), rd_bool, if_pos hcb, if_pos (by omega), if_pos (by omega), ch_at hj, if_neg hu, hw, if_pos (by omega), if_pos (by omega), ch_at (show i < t.length by omega)]
          rfl
        · rw [hco, beq_iff_eq]
          constructor
          · intro h; exact ⟨hci.1 hcb, .inr h⟩
          · rintro ⟨_, h | h⟩
            · exact absurd h hu
            · exact h
    · refine Ev.step (f := fun k => strataref16_Like.l2 k t p can (j : Int) (x9.set (i + 1) false) ((i + 1 : Nat) : Int)) (fun k => ?_) (key false ?_)
      · simp only [strataref16_Like.l2]
        rw [if_pos (by omega), if_pos (by omega), if_pos (by omega), rd_bool, if_neg hcb, hw, if_pos (by omega), if_pos (by omega)]
        rfl
      · rw [hco]
        constructor
        · intro h; cases h
        · rintro ⟨h, _⟩; exact absurd (hci.2 h) hcb

theorem ref_l0 : ∀ (d j : Nat) (can : List Bool), j + d = p.length → Row (ch t) (ch p) j can → Ev (fun k => strataref16_Like.l0 k t p can (j : Int)) (yes (M (ch t) (ch p))) := by
  have hlt : (ch t).length = t.length := by simp [ch]
  have hlp : (ch p).length = p.length := by simp [ch]
  intro d
  induction d with
  | zero =>
    intro j can hd hcan
    have hcl := hcan.1
    have hb : can[t.length]?.getD false = yes (M (ch t) (ch p)) := by
      refine yes_eq ?_
      rw [hcan.2 t.length (by omega), ← C_all, hlt, hlp, ← hd, Nat.add_zero]
    refine Ev.step (f := fun _ => some (yes (M (ch t) (ch p)))) (fun k => ?_) (Ev.now _)
    simp only [strataref16_Like.l0]
    rw [if_neg (by omega), if_pos (by omega), if_pos (by omega), rd_bool, hb]
  | succ d ih =>
    intro j can hd hcan
    have hj : j < p.length := by omega
    have hw : wrap64 ((t.length : Int) + 1) = ((t.length + 1 : Nat) : Int) := by rw [wrap_small (by omega) (by omega)]; rfl
    have hn : ((t.length + 1 : Nat) : Int).toNat = t.length + 1 := by omega
    have hrep : ∀ i' : Nat, (List.replicate (t.length + 1) false)[i']?.getD false = false := by
      intro i'
      rw [List.getElem?_replicate]
      split <;> rfl
    by_cases hc : (ch p)[j]'(by rw [hlp]; exact hj) = pct
    · refine Ev.step (f := fun k => strataref16_Like.l1 k t p can (j : Int) (List.replicate (t.length + 1) false) false ((0 : Nat) : Int)) (fun k => ?_)
        (ref_l1 t p ht hp can j hj hc hcan (fun can' h => ih (j + 1) can' (by omega) h) (t.length + 1) 0 _ false (by omega) (by simp) (fun i' h => by omega) ⟨fun h => (by cases h), fun ⟨i', h, _⟩ => (by omega)⟩)
      simp only [strataref16_Like.l0]
      rw [if_pos (by omega), hw, if_pos (by omega), hn, if_pos (by omega)]
      simp only [Option.bind_some]
      rw [if_pos (by omega), ch_at hj, if_pos hc]
      rfl
    · refine Ev.step (f := fun k => strataref16_Like.l2 k t p can (j : Int) (List.replicate (t.length + 1) false) ((0 : Nat) : Int)) (fun k => ?_)
        (ref_l2 t p ht hp can j hj hc hcan (fun can' h => ih (j + 1) can' (by omega) h) t.length 0 (List.replicate (t.length + 1) false) (by omega) (by simp) (fun i' h => ?_))
      · simp only [strataref16_Like.l0]
        rw [if_pos (by omega), hw, if_pos (by omega), hn, if_pos (by omega)]
        simp only [Option.bind_some]
        rw [if_pos (by omega), ch_at hj, if_neg hc]
        rfl
      · obtain rfl : i' = 0 := by omega
        rw [hrep]
        exact ⟨fun h => (by cases h), fun h => absurd h (C_one_zero (by rw [hlp]; exact hj) hc)⟩

theorem ref_list : Ev (fun k => strataref16_Like.l0 k t p ((List.replicate (t.length + 1) false).set 0 true) 0) (yes (M (ch t) (ch p))) := by
  have hlt : (ch t).length = t.length := by simp [ch]
  refine ref_l0 t p ht hp p.length 0 _ (by omega) ⟨by simp [hlt], fun i hi => ?_⟩
  rw [C_zero hi, set_getD _ _ _ _ (by simp)]
  split
  · rename_i e; simp [e]
  · rename_i e
    rw [List.getElem?_replicate]
    constructor
    · split <;> (intro h; cases h)
    · intro h; exact absurd h e
end

/-! ### The greedy search -/
section
variable (t p : List ByteArray) (ht : t.length ≤ 1000000000) (hp : p.length ≤ 1000000000)
include ht hp
theorem go_l1 : ∀ (d j : Nat), j + d = p.length → Ev (fun k => plan_Like.l1 k p (j : Int)) (yes (M [] ((ch p).drop j))) := by
  have hlp : (ch p).length = p.length := by simp [ch]
  intro d
  induction d with
  | zero =>
    intro j hd
    refine Ev.step (f := fun _ => some (yes (M [] ((ch p).drop j)))) (fun k => ?_) (Ev.now _)
    simp only [plan_Like.l1]
    rw [if_neg (by omega)]
    congr 1
    refine yes_eq ?_
    rw [List.drop_eq_nil_of_le (by omega), M_nil]
    simp; omega
  | succ d ih =>
    intro j hd
    have hj : j < p.length := by omega
    have hdr := List.drop_eq_getElem_cons (l := ch p) (i := j) (by omega)
    by_cases hc : (ch p)[j]'(by omega) = pct
    · have e : yes (M [] ((ch p).drop j)) = yes (M [] ((ch p).drop (j + 1))) := by
        refine yes_congr ?_
        rw [hdr, hc, M_star]
        constructor
        · rintro ⟨i, _, h⟩; simpa using h
        · intro h; exact ⟨0, Nat.zero_le _, by simpa using h⟩
      rw [e]
      refine Ev.step (f := fun k => plan_Like.l1 k p ((j + 1 : Nat) : Int)) (fun k => ?_) (ih (j + 1) (by omega))
      simp only [plan_Like.l1]
      rw [if_pos (by omega), if_pos (by omega), ch_at hj, if_pos hc, wrap_small (by omega) (by omega)]
      rfl
    · refine Ev.step (f := fun _ => some (yes (M [] ((ch p).drop j)))) (fun k => ?_) (Ev.now _)
      simp only [plan_Like.l1]
      rw [if_pos (by omega), if_pos (by omega), ch_at hj, if_neg hc]
      congr 1
      refine yes_eq ?_
      rw [hdr, M_one hc]
      simp; omega

/-- What is known while a star is behind: the last star, and from where on the text is tried. -/
def Inv (T P : List Ch) (i j : Nat) (star : Int) (mark : Nat) : Prop :=
  (star = -1 ∧ mark = 0 ∧ (M T P ↔ M (T.drop i) (P.drop j))) ∨
  ∃ s : Nat, star = s ∧ s < j ∧ i + (s + 1) = mark + j ∧ (M T P ↔ ∃ q, mark ≤ q ∧ q ≤ T.length ∧ M (T.drop q) (P.drop (s + 1))) ∧
    (M (T.drop mark) (P.drop (s + 1)) ↔ M (T.drop i) (P.drop j)) ∧
    ∀ q, q ≤ T.length → M (T.drop q) (P.drop (s + 1)) → q + j ≤ T.length + (s + 1) ∧ M (T.drop (q + j - (s + 1))) (P.drop j)

omit ht hp in
theorem inv_star {T P : List Ch} {i j : Nat} {star : Int} {mark : Nat} (h : Inv T P i j star mark) (hi : i ≤ T.length) (hj : j < P.length) (hc : P[j] = pct) : Inv T P i (j + 1) j i := by
  have hdr := List.drop_eq_getElem_cons hj
  have hs : ∀ q, q ≤ T.length → (M (T.drop q) (P.drop j) ↔ ∃ q', q ≤ q' ∧ q' ≤ T.length ∧ M (T.drop q') (P.drop (j + 1))) := by
    intro q hq
    rw [hdr, hc, M_star]
    constructor
    · rintro ⟨k, hk, h⟩
      rw [List.drop_drop] at h
      simp only [List.length_drop] at hk
      exact ⟨q + k, by omega, by omega, h⟩
    · rintro ⟨q', h1, h2, h⟩
      refine ⟨q' - q, by simp; omega, ?_⟩
      rw [List.drop_drop, show q + (q' - q) = q' by omega]
      exact h
  refine .inr ⟨j, rfl, by omega, by omega, ?_, Iff.rfl, fun q hq h => ⟨by omega, by rw [show q + (j + 1) - (j + 1) = q by omega]; exact h⟩⟩
  rcases h with ⟨_, _, h⟩ | ⟨s, rfl, h1, h2, hA, hB, hL⟩
  · rw [h]; exact hs i hi
  · constructor
    · intro h
      obtain ⟨q, q1, q2, q3⟩ := hA.1 h
      obtain ⟨l1, l2⟩ := hL q q2 q3
      obtain ⟨q', r1, r2, r3⟩ := (hs _ (by omega)).1 l2
      exact ⟨q', by omega, r2, r3⟩
    · intro h
      exact hA.2 ⟨mark, Nat.le_refl _, by omega, hB.2 ((hs i hi).2 h)⟩
omit ht hp in
theorem inv_one {T P : List Ch} {i j : Nat} {star : Int} {mark : Nat} (h : Inv T P i j star mark) (hi : i < T.length) (hj : j < P.length) (hc : P[j] ≠ pct) (hm : P[j] = us ∨ P[j] = T[i]) : Inv T P (i + 1) (j + 1) star mark := by
  have hdr := List.drop_eq_getElem_cons hj
  have hdt := List.drop_eq_getElem_cons hi
  have he : M (T.drop i) (P.drop j) ↔ M (T.drop (i + 1)) (P.drop (j + 1)) := by
    rw [hdr, hdt, M_one hc]
    constructor
    · rintro ⟨x, t', h1, h2, h3⟩
      injection h1 with h1 h4
      rw [h4]; exact h3
    · intro h; exact ⟨_, _, rfl, hm, h⟩
  rcases h with ⟨h0, h1, h⟩ | ⟨s, rfl, h1, h2, hA, hB, hL⟩
  · exact .inl ⟨h0, h1, h.trans he⟩
  · refine .inr ⟨s, rfl, by omega, by omega, hA, hB.trans he, fun q hq h => ?_⟩
    obtain ⟨l1, l2⟩ := hL q hq h
    rw [hdr, M_one hc] at l2
    obtain ⟨x, t', e1, _, e3⟩ := l2
    have hlen := congrArg List.length e1
    simp only [List.length_drop, List.length_cons] at hlen
    refine ⟨by omega, ?_⟩
    have : T.drop (q + (j + 1) - (s + 1)) = t' := by
      rw [show q + (j + 1) - (s + 1) = (q + j - (s + 1)) + 1 by omega, ← List.drop_drop, e1]
      rfl
    rw [this]; exact e3
omit ht hp in
theorem inv_back {T P : List Ch} {i j : Nat} {s : Nat} {mark : Nat} (h : Inv T P i j s mark) (hi : i < T.length) (hmi : mark ≤ i) (hno : ¬ M (T.drop i) (P.drop j)) : Inv T P (mark + 1) (s + 1) s (mark + 1) := by
  rcases h with ⟨h0, _⟩ | ⟨s', hs', h1, h2, hA, hB, hL⟩
  · omega
  · obtain rfl : s = s' := by omega
    refine .inr ⟨s, rfl, by omega, by omega, ?_, Iff.rfl, fun q hq h => ⟨by omega, by rw [show q + (s + 1) - (s + 1) = q by omega]; exact h⟩⟩
    rw [hA]
    constructor
    · rintro ⟨q, q1, q2, q3⟩
      refine ⟨q, ?_, q2, q3⟩
      rcases Nat.lt_or_ge mark q with h | h
      · exact h
      · obtain rfl : q = mark := by omega
        exact absurd (hB.1 q3) hno
    · rintro ⟨q, q1, q2, q3⟩
      exact ⟨q, by omega, q2, q3⟩
omit ht hp in
theorem inv_end {T P : List Ch} {j : Nat} {star : Int} {mark : Nat} (h : Inv T P T.length j star mark) (hmi : mark ≤ T.length) : M T P ↔ M [] (P.drop j) := by
  have hn : T.drop T.length = [] := List.drop_eq_nil_of_le (Nat.le_refl _)
  rcases h with ⟨_, _, h⟩ | ⟨s, rfl, h1, h2, hA, hB, hL⟩
  · rw [h, hn]
  · rw [hA]
    constructor
    · rintro ⟨q, q1, q2, q3⟩
      have := (hL q q2 q3).1
      obtain rfl : q = mark := by omega
      rw [← hn]; exact hB.1 q3
    · intro h
      exact ⟨mark, Nat.le_refl _, hmi, hB.2 (by rw [hn]; exact h)⟩

theorem go_l0 : ∀ (μ i j : Nat) (star : Int) (mark : Nat), (t.length - mark) * (t.length + p.length + 2) + (t.length - i) + (p.length - j) ≤ μ → i ≤ t.length → j ≤ p.length → mark ≤ i → (star = -1 ∨ 0 ≤ star ∧ star < p.length) →
    Inv (ch t) (ch p) i j star mark → Ev (fun k => plan_Like.l0 k t p (i : Int) (j : Int) star (mark : Int)) (yes (M (ch t) (ch p))) := by
  have hlt : (ch t).length = t.length := by simp [ch]
  have hlp : (ch p).length = p.length := by simp [ch]
  intro μ
  induction μ with
  | zero =>
    intro i j star mark hμ hi hj hm hst hinv
    have hin : i = t.length := by omega
    subst hin
    refine Ev.step (f := fun k => plan_Like.l1 k p (j : Int)) (fun k => ?_) ?_
    · simp only [plan_Like.l0]; rw [if_neg (by omega)]
    · rw [yes_congr (inv_end (by rw [hlt]; exact hinv) (by omega))]
      exact go_l1 t p ht hp (p.length - j) j (by omega)
  | succ μ ih =>
    intro i j star mark hμ hi hj hm hst hinv
    rcases Nat.lt_or_ge i t.length with hlt1 | hge
    case inr =>
      have hin : i = t.length := by omega
      subst hin
      refine Ev.step (f := fun k => plan_Like.l1 k p (j : Int)) (fun k => ?_) ?_
      · simp only [plan_Like.l0]; rw [if_neg (by omega)]
      · rw [yes_congr (inv_end (by rw [hlt]; exact hinv) (by omega))]
        exact go_l1 t p ht hp (p.length - j) j (by omega)
    -- a mismatch
    have back : ¬ M ((ch t).drop i) ((ch p).drop j) → Ev (fun k => plan_Like.j2 k t p (i : Int) (j : Int) star (mark : Int) false) (yes (M (ch t) (ch p))) := by
      intro hno
      rcases hst with rfl | ⟨hs0, hs1⟩
      · have e : yes (M (ch t) (ch p)) = false := by
          rcases hinv with ⟨_, _, h⟩ | ⟨s, hs, _⟩
          · rw [Bool.eq_false_iff, Ne, yes_iff, h]; exact hno
          · omega
        rw [e]
        refine Ev.step (f := fun _ => some false) (fun k => ?_) (Ev.now _)
        simp only [plan_Like.j2]
        rw [if_neg (by simp), if_neg (by omega)]
      · obtain ⟨s, rfl⟩ := Int.eq_ofNat_of_zero_le hs0
        have hsj : s < j := by
          rcases hinv with ⟨h0, _⟩ | ⟨s', hs', h1, _⟩
          · omega
          · omega
        refine Ev.step (f := fun k => plan_Like.l0 k t p ((mark + 1 : Nat) : Int) ((s + 1 : Nat) : Int) (s : Int) ((mark + 1 : Nat) : Int)) (fun k => ?_) (ih _ _ _ _ ?_ (by omega) (by omega) (Nat.le_refl _) (.inr ⟨by omega, by omega⟩) (inv_back hinv (by omega) hm hno))
        · simp only [plan_Like.j2]
          rw [if_neg (by simp), if_pos (by omega), wrap_small (by omega) (by omega), wrap_small (by omega) (by omega)]
          rfl
        · obtain ⟨d, hd⟩ : ∃ d, t.length - mark = d + 1 := ⟨t.length - mark - 1, by omega⟩
          have hd' : t.length - (mark + 1) = d := by omega
          rw [hd, Nat.succ_mul] at hμ
          rw [hd']
          omega
    by_cases hjl : j < p.length
    case neg =>
      refine Ev.step (f := fun k => plan_Like.j1 k t p (i : Int) (j : Int) star (mark : Int) false) (fun k => ?_) (Ev.step (f := fun k => plan_Like.j2 k t p (i : Int) (j : Int) star (mark : Int) false) (fun k => ?_) (back ?_))
      · simp only [plan_Like.l0]; rw [if_pos (by omega), if_neg (by omega)]
      · simp only [plan_Like.j1]; rw [if_neg (by simp), if_neg (by omega)]
      · rw [List.drop_eq_nil_of_le (by omega : (ch p).length ≤ j), M_nil]
        intro h
        have := congrArg List.length h
        simp only [List.length_drop, List.length_nil] at this
        omega
    have hjP : j < (ch p).length := by omega
    have hiT : i < (ch t).length := by omega
    by_cases hc : (ch p)[j] = pct
    · refine Ev.step (f := fun k => plan_Like.j1 k t p (i : Int) (j : Int) star (mark : Int) true) (fun k => ?_) (Ev.step (f := fun k => plan_Like.l0 k t p (i : Int) ((j + 1 : Nat) : Int) (j : Int) (i : Int)) (fun k => ?_) (ih _ _ _ _ ?_ (by omega) (by omega) (Nat.le_refl _) (.inr ⟨by omega, by omega⟩) (inv_star hinv (by omega) hjP hc)))
      · simp only [plan_Like.l0]; rw [if_pos (by omega), if_pos (by omega), if_pos (by omega), ch_at hjl, hc]; rfl
      · simp only [plan_Like.j1]; rw [if_pos trivial, wrap_small (by omega) (by omega)]; rfl
      · have := Nat.mul_le_mul_right (t.length + p.length + 2) (show t.length - i ≤ t.length - mark by omega)
        omega
    have hcb : ((ch p)[j] == ([37] : List UInt8)) = false := by rw [beq_eq_false_iff_ne]; exact hc
    by_cases hm2 : (ch p)[j] = us ∨ (ch p)[j] = (ch t)[i]
    · have go : Ev (fun k => plan_Like.j2 k t p (i : Int) (j : Int) star (mark : Int) true) (yes (M (ch t) (ch p))) := by
        refine Ev.step (f := fun k => plan_Like.l0 k t p ((i + 1 : Nat) : Int) ((j + 1 : Nat) : Int) star (mark : Int)) (fun k => ?_) (ih _ _ _ _ (by omega) (by omega) (by omega) (by omega) hst (inv_one hinv hiT hjP hc hm2))
        simp only [plan_Like.j2]; rw [if_pos trivial, wrap_small (by omega) (by omega), wrap_small (by omega) (by omega)]; rfl
      refine Ev.step (f := fun k => plan_Like.j1 k t p (i : Int) (j : Int) star (mark : Int) false) (fun k => ?_) (Ev.step (f := fun k => plan_Like.j2 k t p (i : Int) (j : Int) star (mark : Int) true) (fun k => ?_) go)
      · simp only [plan_Like.l0]; rw [if_pos (by omega), if_pos (by omega), if_pos (by omega), ch_at hjl, hcb]
      · simp only [plan_Like.j1]; rw [if_neg (by simp), if_pos (by omega), if_pos (by omega), ch_at hjl]
        by_cases hu : (ch p)[j] = us
        · rw [if_pos hu]
        · rw [if_neg hu, if_pos (by omega), if_pos (by omega), ch_at hlt1]
          have : ((ch p)[j] == (ch t)[i]) = true := by rw [beq_iff_eq]; exact hm2.resolve_left hu
          rw [this]
    · refine Ev.step (f := fun k => plan_Like.j1 k t p (i : Int) (j : Int) star (mark : Int) false) (fun k => ?_) (Ev.step (f := fun k => plan_Like.j2 k t p (i : Int) (j : Int) star (mark : Int) false) (fun k => ?_) (back ?_))
      · simp only [plan_Like.l0]; rw [if_pos (by omega), if_pos (by omega), if_pos (by omega), ch_at hjl, hcb]
      · simp only [plan_Like.j1]; rw [if_neg (by simp), if_pos (by omega), if_pos (by omega), ch_at hjl, if_neg (fun h => hm2 (.inl h)), if_pos (by omega), if_pos (by omega), ch_at hlt1]
        have : ((ch p)[j] == (ch t)[i]) = false := by rw [beq_eq_false_iff_ne]; exact fun h => hm2 (.inr h)
        rw [this]
      · rw [List.drop_eq_getElem_cons hjP, List.drop_eq_getElem_cons hiT, M_one hc]
        rintro ⟨x, t', h1, h2, _⟩
        injection h1 with h1 _
        exact hm2 (by rw [h1]; exact h2)

theorem go_list : Ev (fun k => plan_Like.l0 k t p 0 0 (-1) 0) (yes (M (ch t) (ch p))) :=
  go_l0 t p ht hp _ 0 0 (-1) 0 (Nat.le_refl _) (Nat.zero_le _) (Nat.zero_le _) (Nat.le_refl _) (.inl rfl) (.inl ⟨rfl, rfl, by simp⟩)
end
end Go.Proofs.Ytggbhdcgfnjogaa.LikeLaw
