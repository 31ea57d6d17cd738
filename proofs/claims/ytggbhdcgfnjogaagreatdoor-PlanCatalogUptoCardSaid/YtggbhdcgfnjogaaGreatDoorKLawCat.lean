import Derived.Test.YtggbhdcgfnjogaaGreatDoorKLawTables
set_option linter.unusedVariables false
namespace Go.Proofs.YtggbhdcgfnjogaaGreatDoor.PlanLaw
open Go.RowKit Go.Proofs.YtggbhdcgfnjogaaGreatDoor.PPc Go.Proofs.YtggbhdcgfnjogaaGreatDoorW.PrintWords Go.Proofs.YtggbhdcgfnjogaaGreatDoorW.PrintLast Go.Proofs.YtggbhdcgfnjogaaGreatDoorW.PrintMore
abbrev One := Int × Int × ByteArray × Int × Int
abbrev one := oneR
theorem ref_esc (s : ByteArray) (hs : s.size ≤ 1000000000) (a : Int) : ∀ (n p : Nat) (xs : List Int), s.size ≤ p + n → p ≤ 2000000000 → xs.length ≤ 4096 → Ev (fun k => qA.l0 k s a xs (p : Int) 0 0 ⟨#[]⟩) (one a (escR s n p xs)) := by
 intro n
 induction n with
 | zero =>
  intro p xs h hp hx;refine Ev.step (f := fun _ => some (0, 0, ⟨#[]⟩, a, 11)) (fun k => ?_) (Ev.now _);simp only [qA.l0];rw [if_neg (by omega)]
 | succ n ih =>
  intro p xs h hp hx;rw [escR]
  by_cases h1 : s.size ≤ p
  · rw [if_pos h1]
    refine Ev.step (f := fun _ => some (0, 0, ⟨#[]⟩, a, 11)) (fun k => ?_) (Ev.now _);simp only [qA.l0];rw [if_neg (by omega)]
  rw [if_neg h1]
  have w1 : wrap64 ((p : Int) + 1) = ((p + 1 : Nat) : Int) := by rw [z8 (by omega) (by omega)]; rfl
  have w2 : wrap64 ((p : Int) + 2) = ((p + 2 : Nat) : Int) := by rw [z8 (by omega) (by omega)]; rfl
  by_cases hz : bt s (p : Int) = 0
  · rw [if_pos hz]
    by_cases h2 : s.size ≤ p + 1
    · rw [if_pos h2]
      refine Ev.step (f := fun _ => some (0, 0, ⟨#[]⟩, a, 11)) (fun k => ?_) (Ev.now _);simp only [qA.l0];rw [if_pos (by omega), if_pos (by omega), if_pos hz, w1, if_pos (by omega)]
    rw [if_neg h2]
    by_cases b1 : bt s ((p + 1 : Nat) : Int) = 1
    · rw [if_pos b1]
      refine Ev.step (f := fun _ => some (3, 0, strOfNums xs, ((p + 2 : Nat) : Int), 0)) (fun k => ?_) (Ev.now _);simp only [qA.l0];rw [if_pos (by omega), if_pos (by omega), if_pos hz, w1, if_neg (by omega), if_pos (by omega), if_pos (by omega), if_pos b1, w2]
    rw [if_neg b1]
    by_cases b2 : bt s ((p + 1 : Nat) : Int) = 255
    · rw [if_pos b2]
      by_cases hl : xs.length = 4096
      · rw [if_pos hl]
        refine Ev.step (f := fun _ => some (0, 0, ⟨#[]⟩, a, 4)) (fun k => ?_) (Ev.now _);simp only [qA.l0];rw [if_pos (by omega), if_pos (by omega), if_pos hz, w1, if_neg (by omega), if_pos (by omega), if_pos (by omega), if_neg b1, if_pos b2, if_pos (by omega)]
      · rw [if_neg hl]
        refine Ev.step (fun k => ?_) (ih (p + 2) (xs ++ [0]) (by omega) (by omega) (by simp; omega));simp only [qA.l0];rw [if_pos (by omega), if_pos (by omega), if_pos hz, w1, if_neg (by omega), if_pos (by omega), if_pos (by omega), if_neg b1, if_pos b2, if_neg (by omega), if_pos (by omega), w2, hz]
    · rw [if_neg b2]
      refine Ev.step (f := fun _ => some (0, 0, ⟨#[]⟩, a, 15)) (fun k => ?_) (Ev.now _);simp only [qA.l0];rw [if_pos (by omega), if_pos (by omega), if_pos hz, w1, if_neg (by omega), if_pos (by omega), if_pos (by omega), if_neg b1, if_neg b2]
  · rw [if_neg hz]
    by_cases hl : xs.length = 4096
    · rw [if_pos hl]
      refine Ev.step (f := fun _ => some (0, 0, ⟨#[]⟩, a, 4)) (fun k => ?_) (Ev.now _);simp only [qA.l0];rw [if_pos (by omega), if_pos (by omega), if_neg hz, if_pos (by omega)]
    · rw [if_neg hl]
      refine Ev.step (fun k => ?_) (ih (p + 1) (xs ++ [bt s (p : Int)]) (by omega) (by omega) (by simp; omega));simp only [qA.l0];rw [if_pos (by omega), if_pos (by omega), if_neg hz, if_neg (by omega), if_pos (by omega), w1]
theorem ref_int (s : ByteArray) (hs : s.size ≤ 1000000000) (p n : Nat) (hp : p < s.size) (t : Int) (h : (t = 0 ∧ 56 ≤ bt s (p : Int) ∧ bt s (p : Int) ≤ 64 ∧ (n : Int) = bt s (p : Int) - 56) ∨ (t = 255 ∧ bt s (p : Int) < 56 ∧ 47 ≤ bt s (p : Int) ∧ (n : Int) = 55 - bt s (p : Int))) :
 zi.f s (p : Int) = some (one (p : Int) (intR s (p + 1) n t)) := by
 unfold zi.f;rw [if_pos ⟨hs, by omega, by omega, by omega, by omega⟩]
 rcases h with ⟨rfl, h1, h2, h3⟩ | ⟨rfl, h1, h2, h3⟩
 · rw [if_neg (by omega), if_neg (by omega), ← h3]
   rfl
 · rw [if_pos (by omega), if_pos (by omega), ← h3]
   rfl
theorem esc_bd (s : ByteArray) : ∀ (n p : Nat) (xs : List Int), (∀ e, escR s n p xs = .error e → e ≠ 0) ∧ ∀ x q, escR s n p xs = .ok (x, q) → q ≤ s.size := by
 intro n
 induction n with
 | zero => intro p xs; rw [escR]; exact ⟨fun e h => by injection h with h; omega, fun x q h => by cases h⟩
 | succ n ih =>
  intro p xs;rw [escR]
  split
  · exact ⟨fun e h => by injection h with h; omega, fun x q h => by cases h⟩
  split
  · split
    · exact ⟨fun e h => by injection h with h; omega, fun x q h => by cases h⟩
    split
    · exact ⟨fun e h => (by cases h), fun x q h => by injection h with h; injection h with _ h; omega⟩
    split
    · split
      · exact ⟨fun e h => by injection h with h; omega, fun x q h => by cases h⟩
      · exact ih _ _
    · exact ⟨fun e h => by injection h with h; omega, fun x q h => by cases h⟩
  split
  · exact ⟨fun e h => by injection h with h; omega, fun x q h => by cases h⟩
  · exact ih _ _
theorem int_bd (s : ByteArray) (p n : Nat) (t : Int) : (∀ e, intR s p n t = .error e → e ≠ 0) ∧ ∀ x q, intR s p n t = .ok (x, q) → q ≤ s.size := by
 unfold intR
 split
 · exact ⟨fun e h => by injection h with h; omega, fun x q h => by cases h⟩
 split
 · exact ⟨fun e h => by injection h with h; omega, fun x q h => by cases h⟩
 split
 · exact ⟨fun e h => by injection h with h; omega, fun x q h => by cases h⟩
 · exact ⟨fun e h => (by cases h), fun x q h => by injection h with h; injection h with _ h; omega⟩
theorem val_bd (s : ByteArray) (p : Nat) : (∀ e, valK s p = .error e → e ≠ 0) ∧ ∀ x q, valK s p = .ok (x, q) → q ≤ s.size := by
 unfold valK
 split
 · exact ⟨fun e h => by injection h with h; omega, fun x q h => by cases h⟩
 split
 · exact ⟨fun e h => (by cases h), fun x q h => by injection h with h; injection h with _ h; omega⟩
 split
 · exact ⟨fun e h => (by cases h), fun x q h => by injection h with h; injection h with _ h; omega⟩
 split
 · exact int_bd s _ _ _
 split
 · exact int_bd s _ _ _
 split
 · exact esc_bd s _ _ _
 · exact ⟨fun e h => by injection h with h; omega, fun x q h => by cases h⟩
theorem ref_one (s : ByteArray) (hs : s.size ≤ 1000000000) (p : Nat) (hp : p < s.size) : Ev (fun k => qz.f k s (p : Int)) (one (p : Int) (valK s p)) := by
 have hbt := zG s (p : Int);have wb : wrap64 (bt s (p : Int)) = bt s (p : Int) := z8 (by omega) (by omega)
 have w1 : wrap64 ((p : Int) + 1) = ((p + 1 : Nat) : Int) := by rw [z8 (by omega) (by omega)]; rfl
 unfold qz.f valK;rw [if_neg (by omega)]
 by_cases c0 : bt s (p : Int) = 16
 · rw [if_pos c0]
   refine Ev.congr (fun k => ?_) (Ev.now _);rw [if_pos (by omega), if_pos (by omega), wb, if_pos c0, w1]
   rfl
 rw [if_neg c0]
 have hf : ∀ (r : One), Ev (fun k => qz.j0 k s (p : Int) (bt s (p : Int)) (decide (bt s (p : Int) = 32 ∨ bt s (p : Int) = 33)) 0 0 ⟨#[]⟩) r →
  Ev (fun k => if 0 ≤ (p : Int) then (if (p : Int) < (s.size : Int) then (if (wrap64 (bt s (p : Int))) = 16 then (some (0, 0, (⟨#[]⟩ : ByteArray), wrap64 ((p : Int) + 1), 0)) else (if (wrap64 (bt s (p : Int))) = 32 then (qz.j0 k s (p : Int) (wrap64 (bt s (p : Int))) true 0 0 (⟨#[]⟩ : ByteArray)) else (qz.j0 k s (p : Int) (wrap64 (bt s (p : Int))) ((wrap64 (bt s (p : Int))) == 33) 0 0 (⟨#[]⟩ : ByteArray)))) else (none)) else (none)) r := by
  intro r h;refine Ev.congr (fun k => ?_) h;rw [if_pos (by omega), if_pos (by omega), wb, if_neg c0]
  by_cases c1 : bt s (p : Int) = 32
  · rw [if_pos c1, decide_eq_true (Or.inl c1)]
  · rw [if_neg c1]
    have : (bt s (p : Int) == 33) = decide (bt s (p : Int) = 32 ∨ bt s (p : Int) = 33) := by
     rw [Bool.eq_iff_iff, beq_iff_eq, decide_eq_true_iff]
     omega
    rw [this]
 refine hf _ ?_
 by_cases c1 : bt s (p : Int) = 32 ∨ bt s (p : Int) = 33
 · rw [if_pos c1, decide_eq_true c1]
   refine Ev.step (f := fun _ => some (1, bt s (p : Int) - 32, ⟨#[]⟩, ((p + 1 : Nat) : Int), 0)) (fun k => ?_) (Ev.now _);simp only [qz.j0];rw [if_pos trivial, w1, z8 (by omega) (by omega)]
 rw [if_neg c1, decide_eq_false c1];refine Ev.step (f := fun k => qz.j1 k s (p : Int) (bt s (p : Int)) (decide (47 ≤ bt s (p : Int) ∧ bt s (p : Int) ≤ 64)) 0 0 ⟨#[]⟩) (fun k => ?_) ?_
 · simp only [qz.j0]
   rw [if_neg (by simp)]
   by_cases c2 : bt s (p : Int) ≥ 47
   · rw [if_pos c2]
     congr 1
     rw [decide_eq_decide]
     omega
   · rw [if_neg c2, decide_eq_false (by omega)]
 by_cases c3 : 47 ≤ bt s (p : Int) ∧ bt s (p : Int) ≤ 64
 · rw [decide_eq_true c3]
   have step : ∀ (R : One), zi.f s (p : Int) = some R → Ev (fun k => qz.j1 k s (p : Int) (bt s (p : Int)) true 0 0 ⟨#[]⟩) R := fun R h =>
    Ev.step (f := fun _ => some R) (fun k => by simp only [qz.j1]; rw [if_pos trivial, h]; rfl) (Ev.now _)
   by_cases c4 : 56 ≤ bt s (p : Int) ∧ bt s (p : Int) ≤ 64
   · rw [if_pos c4]
     exact step _ (ref_int s hs p _ hp 0 (Or.inl ⟨rfl, c4.1, c4.2, by omega⟩))
   · rw [if_neg c4, if_pos ⟨by omega, c3.1⟩]
     exact step _ (ref_int s hs p _ hp 255 (Or.inr ⟨rfl, by omega, c3.1, by omega⟩))
 · rw [decide_eq_false c3, if_neg (by omega), if_neg (by omega)]
   by_cases c5 : bt s (p : Int) = 80
   · rw [if_pos c5]
     have he := ref_esc s hs (p : Int) (s.size - p) (p + 1) [] (by omega) (by omega) (by simp);refine Ev.step (f := fun k => (qA.f k s (p : Int)).bind fun bt172 => (some (bt172.1, bt172.2.1, bt172.2.2.1, bt172.2.2.2.1, bt172.2.2.2.2))) (fun k => ?_) (Ev.bind (Ev.congr (fun k => ?_) he) (Ev.now _))
     · simp only [qz.j1]
       rw [if_neg (by simp), if_pos c5]
     · unfold qA.f
       rw [w1]
   · rw [if_neg c5]
     refine Ev.step (f := fun _ => some (0, 0, ⟨#[]⟩, (p : Int), 14)) (fun k => ?_) (Ev.now _);simp only [qz.j1];rw [if_neg (by simp), if_neg c5]
def outK (R : Except Int (List S42)) : List S42 × Int := (rdL R, rdE R)
theorem ref_key_l0 (s : ByteArray) (hs : s.size ≤ 1000000000) : ∀ (r p : Nat) (done : List S42), done.length + r = 16 → p ≤ s.size → Ev (fun k => qI.l0 k s done (p : Int)) (outK (rdCat done (PPc.keyR s r p))) := by
 intro r
 induction r with
 | zero =>
  intro p done hd hp;rw [PPc.keyR]
  by_cases h : p < s.size
  · rw [if_pos h]
    refine Ev.step (f := fun _ => some (([] : List S42), 18)) (fun k => ?_) (Ev.now _);simp only [qI.l0];rw [if_pos (by omega), if_pos (by omega)]
  · rw [if_neg h]
    refine Ev.step (f := fun _ => some (done, 0)) (fun k => ?_) (by rw [rdCat]; simp only [outK, rdL, rdE, List.append_nil]; exact Ev.now _);simp only [qI.l0];rw [if_neg (by omega)]
 | succ r ih =>
  intro p done hd hp;rw [PPc.keyR]
  by_cases h : p < s.size
  · rw [if_pos h]
    have h1 := ref_one s hs p h;obtain ⟨b1, b2⟩ := val_bd s p
    cases hv : valK s p with
    | error e =>
     rw [hv] at h1;have hne := b1 e hv;refine Ev.step (f := fun k => (qz.f k s (p : Int)).bind fun bt177 => (if bt177.2.2.2.2 = 0 then (if done.length < 4398046511104 then (qI.l0 k s (done ++ [(⟨bt177.1, bt177.2.1, bt177.2.2.1⟩ : S42)]) bt177.2.2.2.1) else (none)) else (some (([] : List (S42)), bt177.2.2.2.2)))) (fun k => ?_) (Ev.bind h1 (Ev.congr (fun k => ?_) (Ev.now _)))
     · simp only [qI.l0]
       rw [if_pos (by omega), if_neg (by omega)]
     · rw [if_neg (show ¬ (one (p : Int) (.error e)).2.2.2.2 = 0 from hne)]
       rfl
    | ok x =>
     obtain ⟨x, q⟩ := x;rw [hv] at h1;have hq := b2 x q hv;have h2 := ih q (done ++ [x]) (by simp; omega) hq;refine Ev.step (f := fun k => (qz.f k s (p : Int)).bind fun bt177 => (if bt177.2.2.2.2 = 0 then (if done.length < 4398046511104 then (qI.l0 k s (done ++ [(⟨bt177.1, bt177.2.1, bt177.2.2.1⟩ : S42)]) bt177.2.2.2.1) else (none)) else (some (([] : List (S42)), bt177.2.2.2.2)))) (fun k => ?_) (Ev.bind h1 (Ev.congr (fun k => ?_) (f := fun k => qI.l0 k s (done ++ [x]) (q : Int)) ?_))
     · simp only [qI.l0]
       rw [if_pos (by omega), if_neg (by omega)]
     · rw [if_pos (show (one (p : Int) (.ok (x, q))).2.2.2.2 = 0 from rfl), if_pos (by omega)]
       rfl
     · simp only
       cases hk : PPc.keyR s r q with
       | error e => rw [hk] at h2; exact h2
       | ok l => rw [hk] at h2; simp only [rdCat, List.append_assoc, List.singleton_append] at h2 ⊢; exact h2
  · rw [if_neg h]
    refine Ev.step (f := fun _ => some (done, 0)) (fun k => ?_) (by rw [rdCat]; simp only [outK, rdL, rdE, List.append_nil]; exact Ev.now _);simp only [qI.l0];rw [if_neg (by omega)]
theorem ref_key (s : ByteArray) (hs : s.size ≤ 1000000000) : Ev (fun k => qI.f k s) (outK (PPc.keyR s 16 0)) := by
 have := ref_key_l0 s hs 16 0 [] (by simp) (by omega)
 have e : rdCat [] (PPc.keyR s 16 0) = PPc.keyR s 16 0 := by cases PPc.keyR s 16 0 <;> rfl
 rw [e] at this
 exact this
noncomputable def colB (s : ByteArray) (p : Nat) : Option (S49 × Nat) :=
 if (qT s p (qR s p)).2.2 = 0 then (if (qT s p (qR s p)).1 > 32 then none else if (s.size : Int) < (qT s p (qR s p)).2.1 + (qT s p (qR s p)).1 + 1 then none
  else some (⟨s.extract (qT s p (qR s p)).2.1.toNat ((qT s p (qR s p)).2.1 + (qT s p (qR s p)).1).toNat, bt s ((qT s p (qR s p)).2.1 + (qT s p (qR s p)).1) % 4, decide (bt s ((qT s p (qR s p)).2.1 + (qT s p (qR s p)).1) ≥ 4)⟩, ((qT s p (qR s p)).2.1 + (qT s p (qR s p)).1 + 1).toNat)) else none
noncomputable def colsB (s : ByteArray) : Nat → Nat → Option (List S49 × Nat)
 | 0, p => some ([], p)
 | n + 1, p => match colB s p with
  | none => none
  | some (c, q) => match colsB s n q with
   | none => none
   | some (l, q2) => some (c :: l, q2)
noncomputable def restB (s : ByteArray) (p : Nat) : Option (List Int) := match numA s p 8 with
 | none => none
 | some (m, q) => match xz s m.toNat q with
  | none => none
  | some (key, _) => some key
noncomputable def dataB (s : ByteArray) : Option (Int × List S49 × List Int) :=
 match numA s 0 9223372036854775807 with
 | none => none
 | some (num, q0) => match numA s q0 16 with
  | none => none
  | some (n, q1) => match colsB s n.toNat q1 with
   | none => none
   | some (cols, q2) => match restB s q2 with
    | none => none
    | some key => some (num, cols, key)
abbrev Par := ByteArray × Int × List S49 × List Int × Bool
theorem colB_read (s : ByteArray) (p : Nat) (c : S49) (hc : c.f0.size ≤ 32 ∧ (c.f1 = 1 ∨ c.f1 = 2 ∨ c.f1 = 3)) (h : At s p (colE c)) : colB s p = some (c, p + (colE c).length) := by
 have hp : p ≤ s.size := by have := h.1; omega
 have hlen : (colE c).length = (uv 10 (c.f0.size : Int)).length + c.f0.size + 1 := by unfold colE; simp only [List.length_append, zm, List.length_cons, List.length_nil]
 obtain ⟨h1, h2⟩ := At.app (xs := uv 10 (c.f0.size : Int) ++ zh c.f0) (ys := [if c.f2 = true then c.f1 + 4 else c.f1]) h;obtain ⟨h3, h4⟩ := h1.app;obtain ⟨a1, a2, _⟩ := h2.cons;rw [List.length_append, zm] at a1 a2;have hu := uv_read s p (c.f0.size : Int) (by omega) (by omega) h3 _ (zz s p hp);have hex := extract_at s c.f0 _ h4;unfold colB;rw [hu, if_pos rfl, if_neg (show ¬ (c.f0.size : Int) > 32 by omega)]
 simp only
 have e1 : (((p + (uv 10 (c.f0.size : Int)).length : Nat) : Int)).toNat = p + (uv 10 (c.f0.size : Int)).length := Int.toNat_natCast _
 have e2 : (((p + (uv 10 (c.f0.size : Int)).length : Nat) : Int) + (c.f0.size : Int)) = ((p + ((uv 10 (c.f0.size : Int)).length + c.f0.size) : Nat) : Int) := by omega
 have e3 : (((p + ((uv 10 (c.f0.size : Int)).length + c.f0.size) : Nat) : Int)).toNat = p + (uv 10 (c.f0.size : Int)).length + c.f0.size := by omega
 have e4 : (((p + ((uv 10 (c.f0.size : Int)).length + c.f0.size) : Nat) : Int) + 1).toNat = p + (colE c).length := by omega
 rw [e2, if_neg (by omega), e1, e3, hex, a2, e4];obtain ⟨x, y, z⟩ := c
 simp only at hc ⊢
 cases z
 · rw [if_neg (by simp)]
   have : y % 4 = y := by omega
   rw [this, decide_eq_false (by omega)]
 · rw [if_pos rfl]
   have : (y + 4) % 4 = y := by omega
   rw [this, decide_eq_true (by omega)]
theorem colsB_read (s : ByteArray) : ∀ (cols : List S49) (p : Nat), (∀ c ∈ cols, c.f0.size ≤ 32 ∧ (c.f1 = 1 ∨ c.f1 = 2 ∨ c.f1 = 3)) → At s p (cols.flatMap colE) → colsB s cols.length p = some (cols, p + (cols.flatMap colE).length) := by
 intro cols
 induction cols with
 | nil => intro p _ _; rfl
 | cons c cols ih =>
  intro p hc h;rw [List.flatMap_cons] at h ⊢;obtain ⟨ha, hb⟩ := h.app;rw [List.length_cons, colsB, colB_read s p c (hc c (by simp)) ha]
  simp only
  rw [ih _ (fun x hx => hc x (by simp [hx])) hb];simp only [List.length_append, Nat.add_assoc]
theorem dataB_read (num : Int) (cols : List S49) (key : List Int) (hn : 0 ≤ num ∧ num ≤ 9223372036854775807) (hc : cols.all xn = true) (hcl : cols.length ≤ 16) (hk : ∀ x ∈ key, 0 ≤ x ∧ x < 16) (hkl : key.length ≤ 8) : dataB (strOfNums (encB num cols key)) = some (num, cols, key) := by
 have hat : At (strOfNums (encB num cols key)) 0 (encB num cols key) := by
  have := At.of [] (encB num cols key) [] (enc_byte num cols key hn hc hcl hk hkl)
  simpa using this
 generalize strOfNums (encB num cols key) = s at *;obtain ⟨h4, a5⟩ := At.app hat;obtain ⟨h3, a4⟩ := h4.app;obtain ⟨h2, a3⟩ := h3.app;obtain ⟨a1, a2⟩ := h2.app;unfold dataB;rw [xF s 0 num _ hn.1 (by omega) hn.2 a1]
 simp only
 rw [xF s _ (cols.length : Int) 16 (by omega) (by omega) (by omega) a2];simp only [Int.toNat_natCast];rw [show 0 + (uv 10 num).length + (uv 10 (cols.length : Int)).length = 0 + (uv 10 num ++ uv 10 (cols.length : Int)).length by rw [List.length_append]; omega, colsB_read s cols _ (fun c hcm => (col_in hc hcm).2) a3]
 simp only
 unfold restB;rw [show 0 + (uv 10 num ++ uv 10 (cols.length : Int)).length + (cols.flatMap colE).length = 0 + (uv 10 num ++ uv 10 (cols.length : Int) ++ cols.flatMap colE).length by rw [List.length_append (bs := cols.flatMap colE)]; omega, xF s _ (key.length : Int) 8 (by omega) (by omega) (by omega) a4];simp only [Int.toNat_natCast];rw [show 0 + (uv 10 num ++ uv 10 (cols.length : Int) ++ cols.flatMap colE).length + (uv 10 (key.length : Int)).length = 0 + (uv 10 num ++ uv 10 (cols.length : Int) ++ cols.flatMap colE ++ uv 10 (key.length : Int)).length by rw [List.length_append (bs := uv 10 (key.length : Int))]; omega, keysA_read s key _ hk a5]
theorem parse_l1 (s : ByteArray) (hs : s.size ≤ 1000000000) (nm : ByteArray) (num : Int) (cols : List S49) (n : Int) (hn : n ≤ 8) :
 ∀ (d i p : Nat) (acc : List Int), (i : Int) + d = n → acc.length ≤ i → p ≤ s.size → ∃ R : Par, Ev (fun k => qr.l1 k s n (p : Int) (i : Int) nm num cols acc) R ∧
  (match xz s d p with | none => R.2.2.2.2 = false | some (l, _) => R = (nm, num, cols, acc ++ l, true)) := by
 intro d
 induction d with
 | zero =>
  intro i p acc hi ha hp;refine ⟨(nm, num, cols, acc, true), Ev.step (f := fun _ => some (nm, num, cols, acc, true)) (fun k => ?_) (Ev.now _), by rw [xz]; simp only [List.append_nil]⟩;simp only [qr.l1];rw [z8 (by omega) (by omega), if_neg (by omega)]
 | succ d ih =>
  intro i p acc hi ha hp;have hu := ref_uv s hs p _ (zz s p hp) hp
  have hst : ∀ k, qr.l1 (k + 1) s n (p : Int) (i : Int) nm num cols acc = (qh.f k s (p : Int)).bind fun bt205 => (if bt205.2.2 = 0 then (if bt205.1 > 16 then (some (nm, num, cols, acc, false)) else (if acc.length < 17592186044416 then (qr.l1 k s n bt205.2.1 (wrap64 ((i : Int) + 1)) nm num cols (acc ++ [wrap64 (bt205.1)])) else (none))) else (some (nm, num, cols, acc, false))) := by
   intro k;simp only [qr.l1];rw [z8 (by omega) (by omega), if_pos (by omega)]
  rw [xz]
  have hA : numA s p 16 = if (qT s p (qR s p)).2.2 = 0 then (if 16 < (qT s p (qR s p)).1 then none else some ((qT s p (qR s p)).1, (qT s p (qR s p)).2.1.toNat)) else none := rfl
  by_cases h0 : (qT s p (qR s p)).2.2 = 0
  · obtain ⟨q, hq, _, hqs, v0, v1⟩ := uv_ok s p _ (zz s p hp) hp h0
    rw [if_pos h0] at hA
    by_cases hv : 16 < (qT s p (qR s p)).1
    · rw [if_pos hv] at hA
      rw [hA]
      exact ⟨(nm, num, cols, acc, false), Ev.step hst (Ev.bind hu (Ev.congr (fun k => by rw [if_pos h0, if_pos hv]) (Ev.now _))), rfl⟩
    · rw [if_neg hv, hq, Int.toNat_natCast] at hA
      rw [hA];generalize hvv : (qT s p (qR s p)).1 = v at *;obtain ⟨R, hR, hR2⟩ := ih (i + 1) q (acc ++ [v]) (by omega) (by simp; omega) hqs;refine ⟨R, Ev.step hst (Ev.bind hu (Ev.congr (fun k => ?_) hR)), ?_⟩
      · rw [if_pos h0, hvv, if_neg (by omega), if_pos (by omega), hq, z8 (i := v) (by omega) (by omega), z8 (by omega) (by omega)]
        rfl
      · simp only
        cases hk : xz s d q with
        | none => rw [hk] at hR2; exact hR2
        | some l =>
         obtain ⟨l, q2⟩ := l;rw [hk] at hR2
         simp only at hR2 ⊢
         rw [hR2]
         simp
  · rw [if_neg h0] at hA
    rw [hA]
    exact ⟨(nm, num, cols, acc, false), Ev.step hst (Ev.bind hu (Ev.congr (fun k => by rw [if_neg h0]) (Ev.now _))), rfl⟩
theorem parse_rest (s : ByteArray) (hs : s.size ≤ 1000000000) (nm : ByteArray) (num : Int) (cols : List S49) (p : Nat) (hp : p ≤ s.size) :
 ∃ R : Par, Ev (fun k => (qh.f k s (p : Int)).bind fun bt202 => (if bt202.2.2 = 0 then (qr.j3 k s bt202.1 bt202.2.1 (decide (bt202.1 > 8)) nm num cols) else (qr.j3 k s bt202.1 bt202.2.1 true nm num cols))) R ∧
  (match restB s p with | none => R.2.2.2.2 = false | some l => R = (nm, num, cols, l, true)) := by
 have hu := ref_uv s hs p _ (zz s p hp) hp
 have hA : numA s p 8 = if (qT s p (qR s p)).2.2 = 0 then (if 8 < (qT s p (qR s p)).1 then none else some ((qT s p (qR s p)).1, (qT s p (qR s p)).2.1.toNat)) else none := rfl
 unfold restB
 by_cases h0 : (qT s p (qR s p)).2.2 = 0
 · obtain ⟨q, hq, _, hqs, v0, v1⟩ := uv_ok s p _ (zz s p hp) hp h0
   rw [if_pos h0] at hA
   by_cases hv : 8 < (qT s p (qR s p)).1
   · rw [if_pos hv] at hA
     rw [hA];refine ⟨(nm, num, cols, [], false), Ev.bind hu (Ev.congr (fun k => by rw [if_pos h0, decide_eq_true (show (qT s p (qR s p)).1 > 8 from hv)]) (Ev.step (f := fun _ => some (nm, num, cols, [], false)) (fun k => ?_) (Ev.now _))), rfl⟩;simp only [qr.j3];rw [if_pos trivial]
   · rw [if_neg hv, hq, Int.toNat_natCast] at hA
     rw [hA];generalize hvv : (qT s p (qR s p)).1 = v at *;obtain ⟨R, hR, hR2⟩ := parse_l1 s hs nm num cols v (by omega) v.toNat 0 q [] (by omega) (by simp) hqs;refine ⟨R, Ev.bind hu (Ev.congr (fun k => by rw [if_pos h0, hvv, hq, decide_eq_false (show ¬ v > 8 from hv)]) (Ev.step (fun k => ?_) hR)), ?_⟩
     · simp only [qr.j3]
       rw [if_neg (by simp)]
       rfl
     · simp only
       cases hk : xz s v.toNat q with
       | none => rw [hk] at hR2; exact hR2
       | some l => rw [hk] at hR2; simpa using hR2
 · rw [if_neg h0] at hA
   rw [hA];refine ⟨(nm, num, cols, [], false), Ev.bind hu (Ev.congr (fun k => by rw [if_neg h0]) (Ev.step (f := fun _ => some (nm, num, cols, [], false)) (fun k => ?_) (Ev.now _))), rfl⟩;simp only [qr.j3];rw [if_pos trivial]
theorem parse_l0 (s : ByteArray) (hs : s.size ≤ 1000000000) (nm : ByteArray) (num : Int) (n : Int) (hn : n ≤ 16) :
 ∀ (d i p : Nat) (acc : List S49), (i : Int) + d = n → acc.length ≤ i → p ≤ s.size → ∃ R : Par, Ev (fun k => qr.l0 k s n (p : Int) (i : Int) nm num acc) R ∧
  (match colsB s d p with | none => R.2.2.2.2 = false | some (l, q) => match restB s q with | none => R.2.2.2.2 = false | some key => R = (nm, num, acc ++ l, key, true)) := by
 intro d
 induction d with
 | zero =>
  intro i p acc hi ha hp;obtain ⟨R, hR, hR2⟩ := parse_rest s hs nm num acc p hp;refine ⟨R, Ev.step (fun k => ?_) hR, by rw [colsB]; simpa using hR2⟩;simp only [qr.l0];rw [z8 (by omega) (by omega), if_neg (by omega)]
 | succ d ih =>
  intro i p acc hi ha hp;have hu := ref_uv s hs p _ (zz s p hp) hp
  have hst := fun k => (show qr.l0 (k + 1) s n (p : Int) (i : Int) nm num acc = _ by simp only [qr.l0]; rw [z8 (i := n) (by omega) (by omega), if_pos (show (i : Int) < n by omega)])
  rw [colsB]
  have hB : colB s p = if (qT s p (qR s p)).2.2 = 0 then (if (qT s p (qR s p)).1 > 32 then none else if (s.size : Int) < (qT s p (qR s p)).2.1 + (qT s p (qR s p)).1 + 1 then none
   else some (⟨s.extract (qT s p (qR s p)).2.1.toNat ((qT s p (qR s p)).2.1 + (qT s p (qR s p)).1).toNat, bt s ((qT s p (qR s p)).2.1 + (qT s p (qR s p)).1) % 4, decide (bt s ((qT s p (qR s p)).2.1 + (qT s p (qR s p)).1) ≥ 4)⟩, ((qT s p (qR s p)).2.1 + (qT s p (qR s p)).1 + 1).toNat)) else none := rfl
  by_cases h0 : (qT s p (qR s p)).2.2 = 0
  · obtain ⟨q, hq, _, hqs, v0, v1⟩ := uv_ok s p _ (zz s p hp) hp h0
    rw [if_pos h0] at hB;generalize hvv : (qT s p (qR s p)).1 = v at *
    by_cases hv : v > 32
    · rw [if_pos hv] at hB
      rw [hB]
      exact ⟨(nm, num, acc, [], false), Ev.step hst (Ev.bind hu (Ev.congr (fun k => by rw [if_pos h0, hvv, if_pos hv]) (Ev.now _))), rfl⟩
    rw [if_neg hv, hq] at hB;have w1 : wrap64 v = v := z8 (by omega) (by omega);have w2 : wrap64 ((s.size : Int) - (q : Int)) = (s.size : Int) - q := z8 (by omega) (by omega);have w3 : wrap64 (v + 1) = v + 1 := z8 (by omega) (by omega);have w4 : wrap64 ((q : Int) + v) = (q : Int) + v := z8 (by omega) (by omega)
    by_cases hl : (s.size : Int) < (q : Int) + v + 1
    · rw [if_pos hl] at hB
      rw [hB]
      exact ⟨(nm, num, acc, [], false), Ev.step hst (Ev.bind hu (Ev.congr (fun k => by rw [if_pos h0, hvv, if_neg hv, hq, w1, w2, w3, if_pos (show (s.size : Int) - q < v + 1 by omega)]) (Ev.now _))), rfl⟩
    rw [if_neg hl] at hB;rw [hB];have hbt := zG s ((q : Int) + v);obtain ⟨R, hR, hR2⟩ := ih (i + 1) ((q : Int) + v + 1).toNat (acc ++ [⟨s.extract (q : Int).toNat ((q : Int) + v).toNat, bt s ((q : Int) + v) % 4, decide (bt s ((q : Int) + v) ≥ 4)⟩]) (by omega) (by simp; omega) (by omega);refine ⟨R, Ev.step hst (Ev.bind hu (Ev.congr (fun k => ?_) hR)), ?_⟩
    · rw [if_pos h0, hvv, if_neg hv, hq, w1, w2, w3, if_neg (show ¬ (s.size : Int) - q < v + 1 by omega), w4, if_pos (by omega), if_pos (by omega), if_pos (by omega), if_pos (by omega), if_pos (by omega), if_pos (by omega), z8 (i := (q : Int) + v + 1) (by omega) (by omega), z8 (i := (i : Int) + 1) (by omega) (by omega), z8 (i := bt s ((q : Int) + v)) (by omega) (by omega), Int.tmod_eq_emod_of_nonneg hbt.1, show ((((q : Int) + v + 1).toNat : Nat) : Int) = (q : Int) + v + 1 by omega]
      rfl
    · simp only
      cases hk : colsB s d ((q : Int) + v + 1).toNat with
      | none => rw [hk] at hR2; exact hR2
      | some l =>
       obtain ⟨l, q2⟩ := l;rw [hk] at hR2
       simp only at hR2 ⊢
       cases hr : restB s q2 with
       | none => rw [hr] at hR2; exact hR2
       | some key => rw [hr] at hR2; simp only at hR2 ⊢; rw [hR2]; simp
  · rw [if_neg h0] at hB
    rw [hB]
    exact ⟨(nm, num, acc, [], false), Ev.step hst (Ev.bind hu (Ev.congr (fun k => by rw [if_neg h0]) (Ev.now _))), rfl⟩
theorem parse_ev (s : ByteArray) (hs : s.size ≤ 1000000000) (nm : ByteArray) :
 ∃ R : Par, Ev (fun k => qr.f k nm s) R ∧ (match dataB s with | none => R.2.2.2.2 = false | some (num, cols, key) => R = (nm, num, cols, key, true)) := by
 have hnum : ∀ (p : Nat) (most : Int), numA s p most = if (qT s p (qR s p)).2.2 = 0 then (if most < (qT s p (qR s p)).1 then none else some ((qT s p (qR s p)).1, (qT s p (qR s p)).2.1.toNat)) else none := fun _ _ => rfl
 have hu := ref_uv s hs 0 _ (zz s 0 (Nat.zero_le _)) (Nat.zero_le _);have hA := hnum 0 9223372036854775807
 have hj0 : ∀ (v q : Int), ∃ R : Par, Ev (fun k => qr.j0 k s v q true nm 0) R ∧ R.2.2.2.2 = false := fun v q =>
  ⟨(nm, 0, [], [], false), Ev.step (f := fun _ => some (nm, 0, [], [], false)) (fun k => by simp only [qr.j0]; rw [if_pos trivial]) (Ev.now _), rfl⟩
 unfold dataB qr.f
 by_cases h0 : (qT s 0 (qR s 0)).2.2 = 0
 · obtain ⟨q, hq, _, hqs, v0, v1⟩ := uv_ok s 0 _ (zz s 0 (Nat.zero_le _)) (Nat.zero_le _) h0
   rw [if_pos h0] at hA
   by_cases hv : 9223372036854775807 < (qT s 0 (qR s 0)).1
   · rw [if_pos hv] at hA
     rw [hA];obtain ⟨R, hR, hR2⟩ := hj0 (qT s 0 (qR s 0)).1 (qT s 0 (qR s 0)).2.1
     exact ⟨R, Ev.bind hu (Ev.congr (fun k => by rw [if_pos h0, decide_eq_true (show (qT s 0 (qR s 0)).1 > 9223372036854775807 from hv)]) hR), hR2⟩
   rw [if_neg hv, hq, Int.toNat_natCast] at hA;rw [hA];generalize hvv : (qT s 0 (qR s 0)).1 = num at *
   simp only
   have hu2 := ref_uv s hs q _ (zz s q hqs) hqs;have hA2 := hnum q 16
   have hj1 : ∀ (v r : Int), ∃ R : Par, Ev (fun k => qr.j1 k s v r true nm num) R ∧ R.2.2.2.2 = false := fun v r =>
    ⟨(nm, num, [], [], false), Ev.step (f := fun _ => some (nm, num, [], [], false)) (fun k => by simp only [qr.j1]; rw [if_pos trivial]) (Ev.now _), rfl⟩
   have hf : ∀ R : Par, Ev (fun k => (qh.f k s (q : Int)).bind fun bt192 => (if bt192.2.2 = 0 then (qr.j1 k s bt192.1 bt192.2.1 (decide (bt192.1 > 16)) nm num) else (qr.j1 k s bt192.1 bt192.2.1 true nm num))) R →
    Ev (fun k => (qh.f k s 0).bind fun bt189 => (if bt189.2.2 = 0 then (qr.j0 k s bt189.1 bt189.2.1 (decide (bt189.1 > 9223372036854775807)) nm 0) else (qr.j0 k s bt189.1 bt189.2.1 true nm 0))) R := by
    intro R h;refine Ev.bind hu (Ev.congr (fun k => by rw [if_pos h0, hvv, hq, decide_eq_false (show ¬ num > 9223372036854775807 from hv)]) (Ev.step (fun k => ?_) h));simp only [qr.j0];rw [if_neg (by simp), z8 (i := num) (by omega) (by omega)]
   by_cases g0 : (qT s q (qR s q)).2.2 = 0
   · obtain ⟨q2, hq2, _, hqs2, z0, z1⟩ := uv_ok s q _ (zz s q hqs) hqs g0
     rw [if_pos g0] at hA2
     by_cases hv2 : 16 < (qT s q (qR s q)).1
     · rw [if_pos hv2] at hA2
       rw [hA2];obtain ⟨R, hR, hR2⟩ := hj1 (qT s q (qR s q)).1 (qT s q (qR s q)).2.1
       exact ⟨R, hf R (Ev.bind hu2 (Ev.congr (fun k => by rw [if_pos g0, decide_eq_true (show (qT s q (qR s q)).1 > 16 from hv2)]) hR)), hR2⟩
     rw [if_neg hv2, hq2, Int.toNat_natCast] at hA2;rw [hA2];generalize hvv2 : (qT s q (qR s q)).1 = n at *;obtain ⟨R, hR, hR2⟩ := parse_l0 s hs nm num n (by omega) n.toNat 0 q2 [] (by omega) (by simp) hqs2;refine ⟨R, hf R (Ev.bind hu2 (Ev.congr (fun k => by rw [if_pos g0, hvv2, hq2, decide_eq_false (show ¬ n > 16 from hv2)]) (Ev.step (fun k => ?_) hR))), ?_⟩
     · simp only [qr.j1]
       rw [if_neg (by simp)]
       rfl
     · simp only
       cases hk : colsB s n.toNat q2 with
       | none => rw [hk] at hR2; exact hR2
       | some l =>
        obtain ⟨l, q3⟩ := l;rw [hk] at hR2
        simp only at hR2 ⊢
        cases hr : restB s q3 with
        | none => rw [hr] at hR2; exact hR2
        | some key => rw [hr] at hR2; simpa using hR2
   · rw [if_neg g0] at hA2
     rw [hA2];obtain ⟨R, hR, hR2⟩ := hj1 (qT s q (qR s q)).1 (qT s q (qR s q)).2.1
     exact ⟨R, hf R (Ev.bind hu2 (Ev.congr (fun k => by rw [if_neg g0]) hR)), hR2⟩
 · rw [if_neg h0] at hA
   rw [hA];obtain ⟨R, hR, hR2⟩ := hj0 (qT s 0 (qR s 0)).1 (qT s 0 (qR s 0)).2.1
   exact ⟨R, Ev.bind hu (Ev.congr (fun k => by rw [if_neg h0]) hR), hR2⟩
noncomputable def vn (a0 a1 : ByteArray) : Option (ByteArray × Int × List S49 × List Int) :=
 match PPc.keyR a0 16 0 with
 | .error _ => none
 | .ok l => if l.length = 2 then (match dataB a1 with
  | none => none
  | some r => some ((qJ l 1).f2, r)) else none
theorem parseB_back {nm a0 a1 : ByteArray} {num : Int} {cols : List S49} {key : List Int} (hn : num ≤ 9223372036854775807) (h : encR nm num cols key = (a0, a1, 0)) : vn a0 a1 = some (nm, num, cols, key) := by
 obtain ⟨ht, _, rfl, rfl⟩ := enc_inv h;unfold xy lens at ht;simp only [Bool.and_eq_true, decide_eq_true_eq] at ht;obtain ⟨⟨_, hn2, hn1, _, hc16, _, hk8⟩, hcols, hkeys, hdup1, hdup2⟩ := ht;unfold vn;rw [cat_read nm hn2]
 simp only
 rw [if_pos (show (catL nm).length = 2 from rfl), dataB_read num cols key ⟨by omega, hn⟩ hcols hc16 (key_in hc16 hkeys) hk8]
 rfl
noncomputable def decS (a0 a1 : ByteArray) : TabR :=
 match vn a0 a1 with
 | none => badT
 | some (nm, num, cols, key) => if encR nm num cols key = (a0, a1, 0) then (nm, num, cols, key, 0) else badT
theorem numA_most {s : ByteArray} {p : Nat} {most v : Int} {q : Nat} (h : numA s p most = some (v, q)) : v ≤ most := by
 unfold numA at h
 split at h
 · split at h
   · cases h
   · injection h with h; injection h with h _; omega
 · cases h
theorem parseB_num {nm a0 a1 : ByteArray} {num : Int} {cols : List S49} {key : List Int} (h : vn a0 a1 = some (nm, num, cols, key)) : num ≤ 9223372036854775807 := by
 unfold vn at h
 split at h
 · cases h
 · split at h
   · unfold dataB at h
     cases g : numA a1 0 9223372036854775807 with
     | none => rw [g] at h; cases h
     | some r =>
      obtain ⟨v, q⟩ := r;have hv := numA_most g;rw [g] at h
      simp only at h
      split at h
      · cases h
      · rename_i r hr
        split at hr
        · cases hr
        split at hr
        · cases hr
        split at hr
        · cases hr
        injection hr with hr
        subst hr
        injection h with h
        injection h with _ h
        injection h with h _
        omega
   · cases h
theorem dec_same (a0 a1 : ByteArray) : decS a0 a1 = decR a0 a1 := by
 unfold decS
 cases h : vn a0 a1 with
 | none =>
  simp only
  unfold decR
  split
  · rfl
  · rename_i nm num cols key hA
    split
    · rename_i he
      have hn : num ≤ 9223372036854775807 := by
       unfold parseA at hA
       split at hA
       · cases hA
       · split at hA
         · cases hd : dataA a1 with
           | none => rw [hd] at hA; cases hA
           | some r =>
            obtain ⟨n, c, k⟩ := r;rw [hd] at hA
            simp only at hA
            injection hA with hA; injection hA with _ hA; injection hA with hA _
            have := (data_ok hd).1.2
            omega
         · cases hA
      rw [parseB_back hn he] at h
      cases h
    · rfl
 | some r =>
  obtain ⟨nm, num, cols, key⟩ := r
  simp only
  by_cases he : encR nm num cols key = (a0, a1, 0)
  · rw [if_pos he, decR_back (parseB_num h) he]
  · rw [if_neg he]
    unfold decR
    split
    · rfl
    · rename_i nm2 num2 cols2 key2 hA
      split
      · rename_i he2
        have hn : num2 ≤ 9223372036854775807 := by
         unfold parseA at hA
         split at hA
         · cases hA
         · split at hA
           · cases hd : dataA a1 with
             | none => rw [hd] at hA; cases hA
             | some r =>
              obtain ⟨n, c, k⟩ := r;rw [hd] at hA
              simp only at hA
              injection hA with hA; injection hA with _ hA; injection hA with hA _
              have := (data_ok hd).1.2
              omega
           · cases hA
        rw [parseB_back hn he2] at h
        injection h with h
        injection h with h1 h; injection h with h2 h; injection h with h3 h4
        subst h1; subst h2; subst h3; subst h4
        exact absurd he2 he
      · rfl
theorem ref_dec (a0 a1 : ByteArray) (h0 : a0.size ≤ 1000000000) (hs : a1.size ≤ 1000000000) : Ev (fun k => qX.f k a0 a1) (decS a0 a1) := by
 unfold qX.f decS vn;have hk := ref_key a0 h0;refine Ev.bind hk ?_
 cases hK : PPc.keyR a0 16 0 with
 | error e =>
  by_cases he : e = 0
  · subst he
    refine Ev.congr (fun k => ?_) (Ev.now _);rw [if_pos (show (outK (.error 0)).2 = 0 from rfl), if_neg (by simp [outK, rdL])]
  · refine Ev.congr (fun k => ?_) (Ev.now _)
    rw [if_neg (show ¬ (outK (.error e)).2 = 0 from he)]
 | ok l =>
  simp only
  by_cases hl : l.length = 2
  · rw [if_pos hl]
    obtain ⟨R, hR, hR2⟩ := parse_ev a1 hs (qJ l 1).f2;refine Ev.congr (fun k => by rw [if_pos (show (outK (.ok l)).2 = 0 from rfl), if_pos (show (outK (.ok l)).1.length = 2 from hl)]; rfl) (Ev.bind hR ?_)
    cases hd : dataB a1 with
    | none =>
     rw [hd] at hR2
     simp only at hR2 ⊢
     exact Ev.congr (fun k => by rw [if_neg (by rw [hR2]; simp)]) (Ev.now _)
    | some r =>
     obtain ⟨num, cols, key⟩ := r;rw [hd] at hR2
     simp only at hR2 ⊢
     have hB : vn a0 a1 = some ((qJ l 1).f2, num, cols, key) := by
      unfold vn;rw [hK]
      simp only
      rw [if_pos hl, hd]
     have hn := parseB_num hB;subst hR2;refine Ev.congr (fun k => by rw [if_pos rfl]) (Ev.bind (ref_enc _ num cols key hn) (Ev.congr (fun k => ?_) (Ev.now _)));generalize encR (qJ l 1).f2 num cols key = E;obtain ⟨x, y, z⟩ := E
     simp only
     by_cases hz : z = 0
     · rw [if_pos hz]
       by_cases hxy : x = a0 ∧ y = a1
       · rw [if_pos hxy, if_pos (by rw [hxy.1, hxy.2, hz])]
       · rw [if_neg hxy, if_neg (by intro e; injection e with e1 e2; injection e2 with e2 _; exact hxy ⟨e1, e2⟩)]
     · rw [if_neg hz, if_neg (by intro e; injection e with e1 e2; injection e2 with _ e2; exact hz e2)]
  · rw [if_neg hl]
    refine Ev.congr (fun k => ?_) (Ev.now _);rw [if_pos (show (outK (.ok l)).2 = 0 from rfl), if_neg (show ¬ (outK (.ok l)).1.length = 2 from hl)]
theorem decR_len (a0 a1 : ByteArray) : (decR a0 a1).2.2.1.length ≤ 16 ∧ (decR a0 a1).2.2.2.1.length ≤ 16 := by
 unfold decR
 split
 · exact ⟨by decide, by decide⟩
 · split
   · rename_i he
     obtain ⟨ht, _, _, _⟩ := enc_inv he;unfold xy lens at ht;simp only [Bool.and_eq_true, decide_eq_true_eq] at ht;obtain ⟨⟨_, hn2, hn1, _, hc16, _, hk8⟩, _⟩ := ht
     exact ⟨hc16, by simp only; omega⟩
   · exact ⟨by decide, by decide⟩
theorem catalog (a0 a1 : ByteArray) (h0 : a0.size ≤ 1000000000) (hs : a1.size ≤ 1000000000) : ∃ k, zy.f k a0 a1 = some true := by
 refine Ev.rounds ?_;unfold zy.f;have hr := ref_dec a0 a1 h0 hs;rw [dec_same] at hr;obtain ⟨l1, l2⟩ := decR_len a0 a1;refine Ev.bind (dec_ev a0 a1 h0 hs) (Ev.bind hr (Ev.bind (same_tab _ _ _ _ (by omega) (by omega)) (Ev.congr (fun k => ?_) (Ev.now true))));rw [if_pos rfl];unfold zv.f
 simp
end Go.Proofs.YtggbhdcgfnjogaaGreatDoor.PlanLaw

