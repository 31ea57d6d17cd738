import Derived.Test.YtggbhdcgfnjogaaGreatDoorKLawEnc
set_option linter.unusedVariables false
namespace Go.Proofs.YtggbhdcgfnjogaaGreatDoor.PlanLaw
open Go.RowKit Go.Proofs.YtggbhdcgfnjogaaGreatDoor.PPc Go.Proofs.YtggbhdcgfnjogaaGreatDoorW.PrintWords Go.Proofs.YtggbhdcgfnjogaaGreatDoorW.PrintLast Go.Proofs.YtggbhdcgfnjogaaGreatDoorW.PrintMore
def escL (l : List UInt8) : List Int := l.flatMap fun b => if b = 0 then [0, 255] else [(b.toNat : Int)]
theorem At.cons {s : ByteArray} {p : Nat} {x : Int} {xs : List Int} (h : At s p (x :: xs)) : p < s.size ∧ bt s (p : Int) = x ∧ At s (p + 1) xs := by
 have h2 := (At.app (xs := [x]) (ys := xs) h).2;obtain ⟨a, b⟩ := h;rw [List.length_cons] at a
 exact ⟨by omega, by have := b 0 (by simp); simpa using this, h2⟩
theorem esc_read (s : ByteArray) : ∀ (l : List UInt8) (n p : Nat) (xs : List Int), At s p (escL l ++ [0, 1]) → xs.length + l.length ≤ 4096 → l.length + 1 ≤ n →
 escR s n p xs = .ok (⟨3, 0, strOfNums (xs ++ l.map fun b => (b.toNat : Int))⟩, p + (escL l).length + 2) := by
 intro l
 induction l with
 | nil =>
  intro n p xs h hx hn;obtain ⟨m, rfl⟩ : ∃ m, n = m + 1 := ⟨n - 1, by omega⟩;obtain ⟨a1, a2, h⟩ := At.cons (show At s p (0 :: [1]) from h);obtain ⟨b1, b2, _⟩ := At.cons h;rw [escR, if_neg (by omega), if_pos a2, if_neg (by omega), if_pos b2]
  simp [escL]
 | cons b l ih =>
  intro n p xs h hx hn;obtain ⟨m, rfl⟩ : ∃ m, n = m + 1 := ⟨n - 1, by omega⟩;simp only [List.length_cons] at hx hn
  by_cases hb : b = 0
  · subst hb
    have e : escL (0 :: l) = 0 :: 255 :: escL l := by simp [escL]
    rw [e] at h ⊢;obtain ⟨a1, a2, h⟩ := At.cons (show At s p (0 :: (255 :: (escL l ++ [0, 1]))) from h);obtain ⟨b1, b2, h⟩ := At.cons h;rw [escR, if_neg (by omega), if_pos a2, if_neg (by omega), if_neg (by omega), if_pos b2, if_neg (by omega), ih m (p + 2) (xs ++ [0]) h (by simp; omega) (by omega)];simp only [List.append_assoc, List.map_cons, List.length_cons, List.singleton_append];rw [show p + 2 + (escL l).length + 2 = p + ((escL l).length + 1 + 1) + 2 by omega]
    rfl
  · have e : escL (b :: l) = (b.toNat : Int) :: escL l := by simp [escL, hb]
    rw [e] at h ⊢;obtain ⟨a1, a2, h⟩ := At.cons (show At s p ((b.toNat : Int) :: (escL l ++ [0, 1])) from h)
    have hb2 : b.toNat ≠ 0 := fun e => hb (UInt8.toNat_inj.1 (by simpa using e))
    rw [escR, if_neg (by omega), if_neg (by omega), if_neg (by omega), a2, ih m (p + 1) (xs ++ [(b.toNat : Int)]) h (by simp; omega) (by omega)];simp only [List.append_assoc, List.map_cons, List.length_cons, List.singleton_append];rw [show p + 1 + (escL l).length + 2 = p + ((escL l).length + 1) + 2 by omega]
theorem escI_all (t : ByteArray) : escI t t.size = escL t.data.toList := by
 unfold escI escL;rw [List.take_of_length_le (by rw [zN]; omega)]
theorem escL_byte (l : List UInt8) : ∀ y ∈ escL l, 0 ≤ y ∧ y < 256 := by
 intro y hy;obtain ⟨b, _, hy⟩ := List.mem_flatMap.1 hy;have := b.toNat_lt
 split at hy
 · simp only [List.mem_cons, List.not_mem_nil, or_false] at hy; omega
 · simp only [List.mem_singleton] at hy; omega
theorem escL_len (l : List UInt8) : l.length ≤ (escL l).length ∧ (escL l).length ≤ 2 * l.length := by
 induction l with
 | nil => simp [escL]
 | cons b l ih =>
  have e : (escL (b :: l)).length = (if b = 0 then 2 else 1) + (escL l).length := by
   simp only [escL, List.flatMap_cons, List.length_append]
   split <;> rfl
  rw [e];simp only [List.length_cons]
  split <;> omega
theorem cat_at (nm : ByteArray) : At (strOfNums (catB nm)) 0 (catB nm) := by
 have := At.of [] (catB nm) [] (by
  intro y hy;simp only [catB, escI_all, List.cons_append, List.nil_append, List.mem_cons, List.mem_append, List.not_mem_nil, or_false] at hy
  rcases hy with rfl | rfl | hy | rfl | rfl
  · omega
  · omega
  · exact escL_byte _ y hy
  · omega
  · omega)
 simpa using this
theorem cat_read (nm : ByteArray) (h : nm.size ≤ 32) : PPc.keyR (strOfNums (catB nm)) 16 0 = .ok (catL nm) := by
 have hsz : (strOfNums (catB nm)).size = (escL nm.data.toList).length + 4 := by
  rw [strOfNums_size, catB, escI_all]; simp
 have hat := cat_at nm;obtain ⟨l1, l2⟩ := escL_len nm.data.toList;rw [zN] at l1 l2;generalize hs : strOfNums (catB nm) = s at *;rw [catB, escI_all] at hat;obtain ⟨a1, a2, hat⟩ := At.cons (show At s 0 (56 :: (80 :: (escL nm.data.toList ++ [0, 1]))) from by simpa using hat);obtain ⟨b1, b2, hat⟩ := At.cons hat;rw [Nat.zero_add] at b1 b2 hat
 have v0 : valK s 0 = .ok (⟨2, 0, ⟨#[]⟩⟩, 1) := by
  unfold valK;rw [if_neg (by omega), if_neg (by omega), if_neg (by omega), if_pos (by omega), show (bt s ((0 : Nat) : Int) - 56).toNat = 0 by omega];unfold intR;rw [if_neg (by omega), if_neg (by omega)]
  simp [beR]
 have v1 : valK s 1 = .ok (⟨3, 0, nm⟩, s.size) := by
  unfold valK;rw [if_neg (by omega), if_neg (by omega), if_neg (by omega), if_neg (by omega), if_neg (by omega), if_pos (by omega), esc_read s nm.data.toList (s.size - 1) (1 + 1) [] hat (by rw [zN]; simp; omega) (by rw [zN]; omega)];rw [List.nil_append, show nm.data.toList.map (fun b => (b.toNat : Int)) = zh nm from rfl, xq, show 1 + 1 + (escL nm.data.toList).length + 2 = s.size by omega]
 rw [PPc.keyR, if_pos (by omega), v0]
 simp only
 rw [PPc.keyR, if_pos (by omega), v1]
 simp only
 rw [PPc.keyR, if_neg (by omega)]
 rfl
def xI (m : Int) (s : ByteArray) (p n : Nat) : ByteArray × Int × Int :=
 if (qT s p n).2.2 = 0 then (if (qT s p n).1 > m then (⟨#[]⟩, (p : Int), 4) else if (qT s p n).2.1 + (qT s p n).1 > (s.size : Int) then (⟨#[]⟩, (p : Int), 11) else (s.extract (qT s p n).2.1.toNat ((qT s p n).2.1 + (qT s p n).1).toNat, (qT s p n).2.1 + (qT s p n).1, 0)) else (⟨#[]⟩, (p : Int), (qT s p n).2.2)
theorem prog_bx (m : Int) (hm : m ≤ 1048576) (s : ByteArray) (hs : s.size ≤ 1000000000) (p n : Nat) (hn : Stops s p n) (hp : p ≤ s.size) : Ev (fun k => xd.f k s (p : Int) m) (xI m s p n) := by
 unfold xd.f xI;refine Ev.bind (prog_uv s hs p n hn hp) (Ev.congr (fun k => ?_) (Ev.now _))
 by_cases h : (qT s p n).2.2 = 0
 · rw [if_pos h, if_pos h]
   obtain ⟨q, hq, _, hqs, h0, h1⟩ := uv_ok s p n hn hp h;rw [hq];generalize (qT s p n).1 = u at *
   by_cases hb : u > m
   · rw [if_pos hb, if_pos hb]
   rw [if_neg hb, if_neg hb]
   have ew : IntKind.u64.wrap (wrap64 ((s.size : Int) - (q : Int))) = (s.size : Int) - q := by
    rw [z8 (by omega) (by omega), xU (by omega) (by omega)]
   rw [ew, z8 (i := u) (by omega) (by omega), z8 (i := (q : Int) + u) (by omega) (by omega)]
   by_cases hc : (q : Int) + u > s.size
   · rw [if_pos hc, if_pos (by omega)]
   · rw [if_neg hc, if_neg (by omega), if_pos (by omega), if_pos (by omega), if_pos (by omega)]
 · rw [if_neg h, if_neg h]
theorem bx_ok (m : Int) (s : ByteArray) (p n : Nat) (hn : Stops s p n) (hp : p ≤ s.size) (h : (xI m s p n).2.2 = 0) : ∃ q : Nat, (xI m s p n).2.1 = (q : Int) ∧ q ≤ s.size ∧ (xI m s p n).1.size ≤ s.size := by
 unfold xI at h ⊢
 by_cases hu : (qT s p n).2.2 = 0
 · rw [if_pos hu] at h ⊢
   obtain ⟨q, hq, _, hqs, h0, h1⟩ := uv_ok s p n hn hp hu
   by_cases hb : (qT s p n).1 > m
   · rw [if_pos hb] at h; exact absurd h (by simp)
   rw [if_neg hb] at h ⊢
   by_cases hc : (qT s p n).2.1 + (qT s p n).1 > (s.size : Int)
   · rw [if_pos hc] at h; exact absurd h (by simp)
   rw [if_neg hc]
   exact ⟨((qT s p n).2.1 + (qT s p n).1).toNat, by simp only; omega, by omega, by simp only [ByteArray.size_extract]; omega⟩
 · rw [if_neg hu] at h; exact absurd h hu
theorem bx_read (m : Int) (s t : ByteArray) (p n : Nat) (hm : (t.size : Int) ≤ m) (ht : t.size ≤ 1000000000) (h : At s p (uv 10 (t.size : Int) ++ zh t)) (hn : Stops s p n) : xI m s p n = (t, ((p + (uv 10 (t.size : Int) ++ zh t).length : Nat) : Int), 0) := by
 obtain ⟨ha, hb⟩ := h.app;have hu := uv_read s p (t.size : Int) (by omega) (by omega) ha n hn;have hsz := hb.1;rw [zm] at hsz;have hex := extract_at s t _ hb;unfold xI;rw [hu, if_pos rfl, if_neg (show ¬ (t.size : Int) > m by omega), if_neg (show ¬ ((p + (uv 10 (t.size : Int)).length : Nat) : Int) + (t.size : Int) > (s.size : Int) by omega)];have e1 : (((p + (uv 10 (t.size : Int)).length : Nat) : Int)).toNat = p + (uv 10 (t.size : Int)).length := Int.toNat_natCast _
 have e2 : (((p + (uv 10 (t.size : Int)).length : Nat) : Int) + (t.size : Int)).toNat = p + (uv 10 (t.size : Int)).length + t.size := by omega
 simp only
 have e3 : (((p + (uv 10 (t.size : Int)).length : Nat) : Int) + (t.size : Int)) = ((p + ((uv 10 (t.size : Int)).length + t.size) : Nat) : Int) := by omega
 rw [e1, e2, hex, List.length_append, zm, e3]
noncomputable def numA (s : ByteArray) (p : Nat) (most : Int) : Option (Int × Nat) :=
 if (qT s p (qR s p)).2.2 = 0 then (if most < (qT s p (qR s p)).1 then none else some ((qT s p (qR s p)).1, (qT s p (qR s p)).2.1.toNat)) else none
theorem xS {s : ByteArray} {p : Nat} {most v : Int} {q : Nat} (hp : p ≤ s.size) (h : numA s p most = some (v, q)) : q ≤ s.size ∧ 0 ≤ v ∧ v ≤ most ∧ v < 18446744073709551616 := by
 unfold numA at h
 by_cases hu : (qT s p (qR s p)).2.2 = 0
 · obtain ⟨q', hq, _, hqs, h0, h1⟩ := uv_ok s p _ (zz s p hp) hp hu
   rw [if_pos hu] at h
   split at h
   · cases h
   · injection h with h; injection h with h1 h2; subst h1; subst h2; rw [hq]; exact ⟨by omega, h0, by omega, by omega⟩
 · rw [if_neg hu] at h; cases h
theorem numD_ev (s : ByteArray) (hs : s.size ≤ 1000000000) (p : Nat) (hp : p ≤ s.size) (most : Int) : Ev (fun k => numD k s (p : Int) most) ((numA s p most).map fun r => (r.1, (r.2 : Int))) := by
 have hn := zz s p hp;unfold numD numA;refine Ev.bind (prog_uv s hs p _ hn hp) (Ev.congr (fun k => ?_) (Ev.now _))
 by_cases hu : (qT s p (qR s p)).2.2 = 0
 · obtain ⟨q', hq, _, hqs, h0, h1⟩ := uv_ok s p _ hn hp hu
   rw [if_pos hu, if_pos hu]
   by_cases hb : most < (qT s p (qR s p)).1
   · rw [if_pos hb, if_pos hb]; rfl
   · rw [if_neg hb, if_neg hb, hq]; rfl
 · rw [if_neg hu, if_neg hu]; rfl
theorem xF (s : ByteArray) (p : Nat) (x most : Int) (h0 : 0 ≤ x) (h1 : x < 18446744073709551616) (hm : x ≤ most) (h : At s p (uv 10 x)) : numA s p most = some (x, p + (uv 10 x).length) := by
 have hp : p ≤ s.size := by have := h.1; omega
 unfold numA;rw [uv_read s p x h0 h1 h _ (zz s p hp), if_pos rfl, if_neg (by omega), Int.toNat_natCast]
noncomputable def colA (s : ByteArray) (p : Nat) : Option (S49 × Nat) :=
 if (xI 1048576 s p (qR s p)).2.2 = 0 then (if (s.size : Int) ≤ (xI 1048576 s p (qR s p)).2.1 then none
  else some (⟨(xI 1048576 s p (qR s p)).1, Go.bits .and .u8 (bt s (xI 1048576 s p (qR s p)).2.1) 3, Go.bits .and .u8 (bt s (xI 1048576 s p (qR s p)).2.1) 4 != 0⟩, ((xI 1048576 s p (qR s p)).2.1 + 1).toNat)) else none
theorem colA_ok {s : ByteArray} {p : Nat} {c : S49} {q : Nat} (hp : p ≤ s.size) (h : colA s p = some (c, q)) : q ≤ s.size ∧ c.f0.size ≤ s.size := by
 unfold colA at h
 split at h
 · rename_i hu
   obtain ⟨q', hq, hqs, hsz⟩ := bx_ok _ s p _ (zz s p hp) hp hu
   split at h
   · cases h
   · injection h with h; injection h with h1 h2; subst h1; subst h2; exact ⟨by omega, hsz⟩
 · cases h
theorem colD_ev (s : ByteArray) (hs : s.size ≤ 1000000000) (p : Nat) (hp : p ≤ s.size) : Ev (fun k => colD k s (p : Int)) ((colA s p).map fun r => (r.1, (r.2 : Int))) := by
 have hn := zz s p hp;unfold colD colA xk.f;refine Ev.bind (Ev.bind (prog_bx 1048576 (by omega) s hs p _ hn hp) (Ev.now _)) (Ev.congr (fun k => ?_) (Ev.now _))
 by_cases hu : (xI 1048576 s p (qR s p)).2.2 = 0
 · obtain ⟨q', hq, hqs, hsz⟩ := bx_ok _ s p _ hn hp hu
   rw [if_pos hu, if_pos hu]
   by_cases hb : (s.size : Int) ≤ (xI 1048576 s p (qR s p)).2.1
   · rw [if_pos hb, if_pos hb]; rfl
   · rw [if_neg hb, if_neg hb, if_neg (show ¬ (xI 1048576 s p (qR s p)).2.1 < 0 by omega), hq]
     simp only [Option.map_some];rw [show (((q' : Int) + 1).toNat : Int) = (q' : Int) + 1 by omega]
 · rw [if_neg hu, if_neg hu]; rfl
theorem and_bits (x : Int) (b : Bool) (hx : x = 1 ∨ x = 2 ∨ x = 3) : Go.bits .and .u8 (if b = true then x + 4 else x) 3 = x ∧ (Go.bits .and .u8 (if b = true then x + 4 else x) 4 != 0) = b := by
 rcases hx with rfl | rfl | rfl <;> cases b <;> decide +kernel
theorem colA_read (s : ByteArray) (p : Nat) (c : S49) (hc : c.f0.size ≤ 32 ∧ (c.f1 = 1 ∨ c.f1 = 2 ∨ c.f1 = 3)) (h : At s p (colE c)) : colA s p = some (c, p + (colE c).length) := by
 have hp : p ≤ s.size := by have := h.1; omega
 obtain ⟨h1, h2⟩ := At.app (xs := uv 10 (c.f0.size : Int) ++ zh c.f0) (ys := [if c.f2 = true then c.f1 + 4 else c.f1]) h;obtain ⟨a1, a2, _⟩ := h2.cons;have hb := bx_read 1048576 s c.f0 p _ (by omega) (by omega) h1 (zz s p hp);obtain ⟨e1, e2⟩ := and_bits c.f1 c.f2 hc.2;unfold colA;rw [hb]
 simp only
 rw [if_pos trivial, if_neg (by omega), a2, e1, e2]
 have e3 : (((p + (uv 10 (c.f0.size : Int) ++ zh c.f0).length : Nat) : Int) + 1).toNat = p + (colE c).length := by unfold colE; rw [List.length_append (bs := [_])]; simp only [List.length_cons, List.length_nil]; omega
 rw [e3]
noncomputable def vh (s : ByteArray) : Nat → Nat → Option (List S49 × Nat)
 | 0, p => some ([], p)
 | n + 1, p => match colA s p with
  | none => none
  | some (c, q) => match vh s n q with
   | none => none
   | some (l, q2) => some (c :: l, q2)
noncomputable def xz (s : ByteArray) : Nat → Nat → Option (List Int × Nat)
 | 0, p => some ([], p)
 | n + 1, p => match numA s p 16 with
  | none => none
  | some (c, q) => match xz s n q with
   | none => none
   | some (l, q2) => some (c :: l, q2)
theorem colsA_ok (s : ByteArray) : ∀ (n p : Nat) (l : List S49) (q : Nat), p ≤ s.size → vh s n p = some (l, q) → q ≤ s.size ∧ ∀ c ∈ l, c.f0.size ≤ s.size := by
 intro n
 induction n with
 | zero => intro p l q hp h; rw [vh] at h; injection h with h; injection h with h1 h2; subst h1; subst h2; exact ⟨hp, fun c hc => by simp at hc⟩
 | succ n ih =>
  intro p l q hp h;rw [vh] at h
  cases h1 : colA s p with
  | none => rw [h1] at h; cases h
  | some r =>
   obtain ⟨c, q1⟩ := r;rw [h1] at h;obtain ⟨a, b⟩ := colA_ok hp h1
   cases h2 : vh s n q1 with
   | none => simp only [h2] at h; cases h
   | some r =>
    obtain ⟨l2, q2⟩ := r;simp only [h2] at h
    injection h with h; injection h with h3 h4; subst h3; subst h4
    obtain ⟨a2, b2⟩ := ih q1 l2 q2 a h2
    exact ⟨a2, fun x hx => (List.mem_cons.1 hx).elim (fun e => e ▸ b) (b2 x)⟩
theorem keysA_ok (s : ByteArray) : ∀ (n p : Nat) (l : List Int) (q : Nat), p ≤ s.size → xz s n p = some (l, q) → q ≤ s.size ∧ ∀ c ∈ l, 0 ≤ c ∧ c ≤ 16 := by
 intro n
 induction n with
 | zero => intro p l q hp h; rw [xz] at h; injection h with h; injection h with h1 h2; subst h1; subst h2; exact ⟨hp, fun c hc => by simp at hc⟩
 | succ n ih =>
  intro p l q hp h;rw [xz] at h
  cases h1 : numA s p 16 with
  | none => rw [h1] at h; cases h
  | some r =>
   obtain ⟨c, q1⟩ := r;rw [h1] at h;obtain ⟨a, b, d, _⟩ := xS hp h1
   cases h2 : xz s n q1 with
   | none => simp only [h2] at h; cases h
   | some r =>
    obtain ⟨l2, q2⟩ := r;simp only [h2] at h
    injection h with h; injection h with h3 h4; subst h3; subst h4
    obtain ⟨a2, b2⟩ := ih q1 l2 q2 a h2
    exact ⟨a2, fun x hx => (List.mem_cons.1 hx).elim (fun e => e ▸ ⟨b, d⟩) (b2 x)⟩
theorem colsD_ev (s : ByteArray) (hs : s.size ≤ 1000000000) : ∀ (n p : Nat), p ≤ s.size → Ev (fun k => colsD k s n (p : Int)) ((vh s n p).map fun r => (r.1, (r.2 : Int))) := by
 intro n
 induction n with
 | zero => intro p hp; exact Ev.congr (fun k => by rw [colsD]; rfl) (Ev.now _)
 | succ n ih =>
  intro p hp;refine Ev.congr (fun k => colsD.eq_2 k s (p : Int) n) (Ev.bind (colD_ev s hs p hp) ?_);rw [vh]
  cases h1 : colA s p with
  | none => exact Ev.now _
  | some r =>
   obtain ⟨c, q1⟩ := r;obtain ⟨a, b⟩ := colA_ok hp h1;refine Ev.bind (ih q1 a) ?_
   simp only
   cases h2 : vh s n q1 with
   | none => exact Ev.now _
   | some r => exact Ev.now _
theorem keysD_ev (s : ByteArray) (hs : s.size ≤ 1000000000) : ∀ (n p : Nat), p ≤ s.size → Ev (fun k => keysD k s n (p : Int)) ((xz s n p).map fun r => (r.1, (r.2 : Int))) := by
 intro n
 induction n with
 | zero => intro p hp; exact Ev.congr (fun k => by rw [keysD]; rfl) (Ev.now _)
 | succ n ih =>
  intro p hp;refine Ev.congr (fun k => keysD.eq_2 k s (p : Int) n) (Ev.bind (numD_ev s hs p hp 16) ?_);rw [xz]
  cases h1 : numA s p 16 with
  | none => exact Ev.now _
  | some r =>
   obtain ⟨c, q1⟩ := r;obtain ⟨a, b, d, _⟩ := xS hp h1;refine Ev.bind (ih q1 a) ?_
   simp only
   cases h2 : xz s n q1 with
   | none => exact Ev.now _
   | some r =>
    simp only [Option.map_some];rw [z8 (by omega) (by omega)]
    exact Ev.now _
theorem colsA_read (s : ByteArray) : ∀ (cols : List S49) (p : Nat), (∀ c ∈ cols, c.f0.size ≤ 32 ∧ (c.f1 = 1 ∨ c.f1 = 2 ∨ c.f1 = 3)) → At s p (cols.flatMap colE) → vh s cols.length p = some (cols, p + (cols.flatMap colE).length) := by
 intro cols
 induction cols with
 | nil => intro p _ _; rfl
 | cons c cols ih =>
  intro p hc h;rw [List.flatMap_cons] at h ⊢;obtain ⟨ha, hb⟩ := h.app;rw [List.length_cons, vh, colA_read s p c (hc c (by simp)) ha]
  simp only
  rw [ih _ (fun x hx => hc x (by simp [hx])) hb];simp only [List.length_append, Nat.add_assoc]
theorem keysA_read (s : ByteArray) : ∀ (key : List Int) (p : Nat), (∀ c ∈ key, 0 ≤ c ∧ c < 16) → At s p (key.flatMap (uv 10)) → xz s key.length p = some (key, p + (key.flatMap (uv 10)).length) := by
 intro key
 induction key with
 | nil => intro p _ _; rfl
 | cons c key ih =>
  intro p hc h;rw [List.flatMap_cons] at h ⊢;obtain ⟨ha, hb⟩ := h.app;have := hc c (by simp);rw [List.length_cons, xz, xF s p c 16 (by omega) (by omega) (by omega) ha]
  simp only
  rw [ih _ (fun x hx => hc x (by simp [hx])) hb];simp only [List.length_append, Nat.add_assoc]
noncomputable def dataA (s : ByteArray) : Option (Int × List S49 × List Int) :=
 match numA s 0 9223372036854775807 with
 | none => none
 | some (num, q0) => match numA s q0 16 with
  | none => none
  | some (n, q1) => match vh s n.toNat q1 with
   | none => none
   | some (cols, q2) => match numA s q2 8 with
    | none => none
    | some (m, q3) => match xz s m.toNat q3 with
     | none => none
     | some (key, _) => some (num, cols, key)
theorem enc_byte (num : Int) (cols : List S49) (key : List Int) (hn : 0 ≤ num ∧ num ≤ 9223372036854775807) (hc : cols.all xn = true) (hcl : cols.length ≤ 16) (hk : ∀ x ∈ key, 0 ≤ x ∧ x < 16) (hkl : key.length ≤ 8) : ∀ y ∈ encB num cols key, 0 ≤ y ∧ y < 256 := by
 intro y hy;simp only [encB, List.mem_append, or_assoc] at hy
 rcases hy with hy | hy | hy | hy | hy
 · exact uv_byte 10 num hn.1 y hy
 · exact uv_byte 10 _ (by omega) y hy
 · obtain ⟨c, hcm, hy⟩ := List.mem_flatMap.1 hy
   obtain ⟨c1, c2, c3⟩ := col_in hc hcm;simp only [colE, List.mem_append, or_assoc, List.mem_singleton] at hy
   rcases hy with hy | hy | hy
   · exact uv_byte 10 _ (by omega) y hy
   · unfold zh at hy
     obtain ⟨b, _, rfl⟩ := List.mem_map.1 hy;have := b.toNat_lt
     omega
   · split at hy <;> omega
 · exact uv_byte 10 _ (by omega) y hy
 · obtain ⟨x, hx, hy⟩ := List.mem_flatMap.1 hy
   exact uv_byte 10 x (hk x hx).1 y hy
theorem data_read (num : Int) (cols : List S49) (key : List Int) (hn : 0 ≤ num ∧ num ≤ 9223372036854775807) (hc : cols.all xn = true) (hcl : cols.length ≤ 16) (hk : ∀ x ∈ key, 0 ≤ x ∧ x < 16) (hkl : key.length ≤ 8) : dataA (strOfNums (encB num cols key)) = some (num, cols, key) := by
 have hat : At (strOfNums (encB num cols key)) 0 (encB num cols key) := by
  have := At.of [] (encB num cols key) [] (enc_byte num cols key hn hc hcl hk hkl)
  simpa using this
 generalize strOfNums (encB num cols key) = s at *;obtain ⟨h4, a5⟩ := At.app hat;obtain ⟨h3, a4⟩ := h4.app;obtain ⟨h2, a3⟩ := h3.app;obtain ⟨a1, a2⟩ := h2.app;unfold dataA;rw [xF s 0 num _ hn.1 (by omega) hn.2 a1]
 simp only
 rw [xF s _ (cols.length : Int) 16 (by omega) (by omega) (by omega) a2];simp only [Int.toNat_natCast];rw [show 0 + (uv 10 num).length + (uv 10 (cols.length : Int)).length = 0 + (uv 10 num ++ uv 10 (cols.length : Int)).length by rw [List.length_append]; omega, colsA_read s cols _ (fun c hcm => (col_in hc hcm).2) a3]
 simp only
 rw [show 0 + (uv 10 num ++ uv 10 (cols.length : Int)).length + (cols.flatMap colE).length = 0 + (uv 10 num ++ uv 10 (cols.length : Int) ++ cols.flatMap colE).length by rw [List.length_append (bs := cols.flatMap colE)]; omega, xF s _ (key.length : Int) 8 (by omega) (by omega) (by omega) a4];simp only [Int.toNat_natCast];rw [show 0 + (uv 10 num ++ uv 10 (cols.length : Int) ++ cols.flatMap colE).length + (uv 10 (key.length : Int)).length = 0 + (uv 10 num ++ uv 10 (cols.length : Int) ++ cols.flatMap colE ++ uv 10 (key.length : Int)).length by rw [List.length_append (bs := uv 10 (key.length : Int))]; omega, keysA_read s key _ hk a5]
noncomputable def parseA (a0 a1 : ByteArray) : Option (ByteArray × Int × List S49 × List Int) :=
 match PPc.keyR a0 16 0 with
 | .error _ => none
 | .ok l => if l.length = 2 then (match dataA a1 with
  | none => none
  | some r => some ((qJ l 1).f2, r)) else none
theorem enc_inv {nm a0 a1 : ByteArray} {num : Int} {cols : List S49} {key : List Int} (h : encR nm num cols key = (a0, a1, 0)) :
 xy nm num cols key = true ∧ (encB num cols key).length ≤ 512 ∧ a0 = strOfNums (catB nm) ∧ a1 = strOfNums (encB num cols key) := by
 unfold encR at h
 by_cases ht : xy nm num cols key = true
 · rw [if_pos ht] at h
   unfold encFin at h
   by_cases hl : (encB num cols key).length > 512
   · rw [if_pos hl] at h; simp [noPair] at h
   · rw [if_neg hl] at h
     injection h with h1 h2
     injection h2 with h2 _
     exact ⟨ht, by omega, h1.symm, h2.symm⟩
 · rw [if_neg ht] at h; simp [noPair] at h
theorem parse_back {nm a0 a1 : ByteArray} {num : Int} {cols : List S49} {key : List Int} (hn : num ≤ 9223372036854775807) (h : encR nm num cols key = (a0, a1, 0)) : parseA a0 a1 = some (nm, num, cols, key) := by
 obtain ⟨ht, _, rfl, rfl⟩ := enc_inv h;unfold xy lens at ht;simp only [Bool.and_eq_true, decide_eq_true_eq] at ht;obtain ⟨⟨_, hn2, hn1, _, hc16, _, hk8⟩, hcols, hkeys, hdup1, hdup2⟩ := ht;unfold parseA;rw [cat_read nm hn2]
 simp only
 rw [if_pos (show (catL nm).length = 2 from rfl), data_read num cols key ⟨by omega, hn⟩ hcols hc16 (key_in hc16 hkeys) hk8]
 rfl
noncomputable def decR (a0 a1 : ByteArray) : TabR :=
 match parseA a0 a1 with
 | none => badT
 | some (nm, num, cols, key) => if encR nm num cols key = (a0, a1, 0) then (nm, num, cols, key, 0) else badT
theorem decR_back {nm a0 a1 : ByteArray} {num : Int} {cols : List S49} {key : List Int} (hn : num ≤ 9223372036854775807) (h : encR nm num cols key = (a0, a1, 0)) : decR a0 a1 = (nm, num, cols, key, 0) := by
 unfold decR;rw [parse_back hn h]
 simp only
 rw [if_pos h]
theorem data_ok {s : ByteArray} {num : Int} {cols : List S49} {key : List Int} (h : dataA s = some (num, cols, key)) : (0 ≤ num ∧ num ≤ 9223372036854775807) ∧ (∀ c ∈ cols, c.f0.size ≤ s.size) ∧ ∀ x ∈ key, 0 ≤ x ∧ x ≤ 16 := by
 unfold dataA at h
 cases h0 : numA s 0 9223372036854775807 with
 | none => rw [h0] at h; cases h
 | some r =>
  obtain ⟨n0, q0⟩ := r;obtain ⟨a0, b0, c0, _⟩ := xS (Nat.zero_le _) h0;rw [h0] at h
  simp only at h
  cases h1 : numA s q0 16 with
  | none => rw [h1] at h; cases h
  | some r =>
   obtain ⟨n1, q1⟩ := r;obtain ⟨a1, b1, c1, _⟩ := xS a0 h1;rw [h1] at h
   simp only at h
   cases h2 : vh s n1.toNat q1 with
   | none => rw [h2] at h; cases h
   | some r =>
    obtain ⟨l2, q2⟩ := r;obtain ⟨a2, b2⟩ := colsA_ok s _ _ _ _ a1 h2;rw [h2] at h
    simp only at h
    cases h3 : numA s q2 8 with
    | none => rw [h3] at h; cases h
    | some r =>
     obtain ⟨n3, q3⟩ := r;obtain ⟨a3, b3, c3, _⟩ := xS a2 h3;rw [h3] at h
     simp only at h
     cases h4 : xz s n3.toNat q3 with
     | none => rw [h4] at h; cases h
     | some r =>
      obtain ⟨l4, q4⟩ := r;obtain ⟨a4, b4⟩ := keysA_ok s _ _ _ _ a3 h4;rw [h4] at h
      simp only at h
      injection h with h; injection h with h5 h; injection h with h6 h7
      subst h5; subst h6; subst h7
      exact ⟨⟨b0, c0⟩, b2, b4⟩
theorem end_ev (a0 a1 nm : ByteArray) (num : Int) (cols : List S49) (key : List Int) (hs : a1.size ≤ 1000000000) (hn : num ≤ 9223372036854775807) (hc : ∀ c ∈ cols, c.f0.size ≤ a1.size) (hk : ∀ x ∈ key, 0 ≤ x ∧ x ≤ 16) :
 Ev (fun k => decEnd k a0 a1 nm num cols key) (if encR nm num cols key = (a0, a1, 0) then (nm, num, cols, key, 0) else badT) := by
 unfold decEnd;refine Ev.bind (prog_enc nm num cols key (fun c hcm => by have := hc c hcm; omega) (fun x hx => by have := hk x hx; omega) hn) (Ev.congr (fun k => ?_) (Ev.now _));generalize encR nm num cols key = E;obtain ⟨x, y, z⟩ := E
 simp only
 by_cases hz : z = 0
 · rw [if_pos hz]
   by_cases hxy : x = a0 ∧ y = a1
   · rw [if_pos hxy, if_pos (by rw [hxy.1, hxy.2, hz])]
   · rw [if_neg hxy, if_neg (by intro e; injection e with e1 e2; injection e2 with e2 _; exact hxy ⟨e1, e2⟩)]
 · rw [if_neg hz, if_neg (by intro e; injection e with e1 e2; injection e2 with _ e2; exact hz e2)]
theorem dec_ev (a0 a1 : ByteArray) (h0 : a0.size ≤ 1000000000) (hs : a1.size ≤ 1000000000) : Ev (fun k => zq.f k a0 a1) (decR a0 a1) := by
 have hd := @data_ok a1
 have hT : ∀ nm, Ev (fun k => decNum k a0 a1 nm) (match dataA a1 with | none => badT | some (num, cols, key) => if encR nm num cols key = (a0, a1, 0) then (nm, num, cols, key, 0) else badT) := by
  intro nm;unfold decNum;unfold dataA at hd ⊢;refine Ev.bind (numD_ev a1 hs 0 (Nat.zero_le _) _) ?_
  cases g0 : numA a1 0 9223372036854775807 with
  | none => exact Ev.now _
  | some r =>
   obtain ⟨n0, q0⟩ := r;obtain ⟨a0', b0, c0, _⟩ := xS (Nat.zero_le _) g0;rw [g0] at hd;simp only [Option.map_some] at hd ⊢;rw [z8 (by omega) (by omega)];unfold decCols;refine Ev.bind (numD_ev a1 hs q0 a0' _) ?_
   cases g1 : numA a1 q0 16 with
   | none => exact Ev.now _
   | some r =>
    obtain ⟨n1, q1⟩ := r;obtain ⟨a1', b1, c1, _⟩ := xS a0' g1;rw [g1] at hd;simp only [Option.map_some] at hd ⊢;refine Ev.bind (colsD_ev a1 hs _ q1 a1') ?_
    cases g2 : vh a1 n1.toNat q1 with
    | none => exact Ev.now _
    | some r =>
     obtain ⟨l2, q2⟩ := r;obtain ⟨a2, b2⟩ := colsA_ok a1 _ _ _ _ a1' g2;rw [g2] at hd;simp only [Option.map_some] at hd ⊢;unfold decKeys;refine Ev.bind (numD_ev a1 hs q2 a2 _) ?_
     cases g3 : numA a1 q2 8 with
     | none => exact Ev.now _
     | some r =>
      obtain ⟨n3, q3⟩ := r;obtain ⟨a3, b3, c3, _⟩ := xS a2 g3;rw [g3] at hd;simp only [Option.map_some] at hd ⊢;refine Ev.bind (keysD_ev a1 hs _ q3 a3) ?_
      cases g4 : xz a1 n3.toNat q3 with
      | none => exact Ev.now _
      | some r =>
       obtain ⟨l4, q4⟩ := r;rw [g4] at hd;simp only [Option.map_some] at hd ⊢;obtain ⟨d1, d2, d3⟩ := hd rfl
       exact end_ev a0 a1 nm n0 l2 l4 hs d1.2 d2 d3
 unfold zq.f decR parseA zF.f;refine Ev.congr (f := fun k => if rdE (PPc.keyR a0 16 0) = 0 then (if (rdL (PPc.keyR a0 16 0)).length = 2 then decNum k a0 a1 (qJ (rdL (PPc.keyR a0 16 0)) 1).f2 else some badT) else some badT) (fun k => by rw [if_pos hs, if_pos h0]; rfl) ?_
 cases hK : PPc.keyR a0 16 0 with
 | error e =>
  by_cases he : e = 0
  · subst he
    exact Ev.congr (fun k => by rw [if_pos (show rdE (.error 0) = 0 from rfl), if_neg (by simp [rdL])]) (Ev.now _)
  · exact Ev.congr (fun k => by rw [if_neg (show ¬ rdE (.error e) = 0 from he)]) (Ev.now _)
 | ok l =>
  simp only
  by_cases hl : l.length = 2
  · rw [if_pos hl]
    refine Ev.congr (f := fun k => decNum k a0 a1 (qJ l 1).f2) (fun k => by rw [if_pos (show rdE (.ok l) = 0 from rfl), if_pos (show (rdL (.ok l)).length = 2 from hl)]; rfl) ?_;have := hT (qJ l 1).f2
    cases hD : dataA a1 with
    | none => rw [hD] at this; exact this
    | some r => rw [hD] at this; obtain ⟨num, cols, key⟩ := r; exact this
  · rw [if_neg hl]
    exact Ev.congr (fun k => by rw [if_pos (show rdE (.ok l) = 0 from rfl), if_neg (show ¬ (rdL (.ok l)).length = 2 from hl)]) (Ev.now _)
end Go.Proofs.YtggbhdcgfnjogaaGreatDoor.PlanLaw

