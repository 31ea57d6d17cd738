import Derived.Test.YtggbhdcgfnjogaaDoorSLawPlan
set_option linter.unusedVariables false
namespace Go.Proofs.YtggbhdcgfnjogaaDoor.PlanLaw
open Go.RowKit Go.Proofs.YtggbhdcgfnjogaaDoor.PPl Go.Proofs.YtggbhdcgfnjogaaDoorW.PrintWords Go.Proofs.YtggbhdcgfnjogaaDoorW.PrintLast Go.Proofs.YtggbhdcgfnjogaaDoorW.PrintMore
theorem strOfNums_get (xs : List Int) (i : Nat) (h : i < xs.length) (hx : 0 ≤ xs[i] ∧ xs[i] < 256) : bt (strOfNums xs) (i : Int) = xs[i] := by
 have hs : i < (strOfNums xs).size := by rw [strOfNums_size]; exact h
 rw [bt_data _ i hs]
 simp only [strOfNums_data, List.getElem_map]
 rw [UInt8.toNat_ofNat']
 omega
def At (s : ByteArray) (p : Nat) (xs : List Int) : Prop := p + xs.length ≤ s.size ∧ ∀ i (h : i < xs.length), bt s ((p + i : Nat) : Int) = xs[i]
theorem At.app {s : ByteArray} {p : Nat} {xs ys : List Int} (h : At s p (xs ++ ys)) : At s p xs ∧ At s (p + xs.length) ys := by
 obtain ⟨h1, h2⟩ := h
 rw [List.length_append] at h1
 refine ⟨⟨by omega, fun i hi => ?_⟩, ⟨by omega, fun i hi => ?_⟩⟩
 · have := h2 i (by rw [List.length_append]; omega)
   rw [this, List.getElem_append_left hi]
 · have := h2 (xs.length + i) (by rw [List.length_append]; omega)
   rw [show p + xs.length + i = p + (xs.length + i) by omega, this, List.getElem_append_right (by omega)]
   simp
theorem At.of (xs ys zs : List Int) (hb : ∀ y ∈ ys, 0 ≤ y ∧ y < 256) : At (strOfNums (xs ++ ys ++ zs)) xs.length ys := by
 refine ⟨by rw [strOfNums_size]; simp, fun i hi => ?_⟩
 have hlen : xs.length + i < (xs ++ ys ++ zs).length := by simp; omega
 have e : (xs ++ ys ++ zs)[xs.length + i] = ys[i] := by
  rw [List.getElem_append_left (by simp; omega), List.getElem_append_right (by omega)]
  simp
 rw [strOfNums_get _ _ hlen (by rw [e]; exact hb _ (List.getElem_mem hi)), e]
def tailOK : List Int → Prop
 | [] => False
 | [b] => 0 < b ∧ b ≤ 127
 | b :: l => 127 < b ∧ tailOK l
theorem tail_cons (b : Int) (l : List Int) (h1 : 127 < b) (h2 : tailOK l) : tailOK (b :: l) := by
 cases l with
 | nil => exact absurd h2 id
 | cons c l => exact ⟨h1, h2⟩
theorem uv_tail : ∀ (n : Nat) (x : Int), 0 < x → x < 128 ^ n → tailOK (uv n x) := by
 intro n
 induction n with
 | zero => intro x h0 h1; simp at h1; omega
 | succ n ih =>
  intro x h0 h1
  unfold uv
  by_cases hx : x < 128
  · rw [if_pos hx]; exact ⟨h0, by omega⟩
  · rw [if_neg hx]
    exact tail_cons _ _ (by omega) (ih (x / 128) (by omega) (by rw [Int.pow_succ] at h1; exact Int.ediv_lt_of_lt_mul (by omega) h1))
theorem tail_at : ∀ (l : List Int), tailOK l → (∀ i (h : i + 1 < l.length), 127 < l[i]) ∧ ∃ h : l.length - 1 < l.length, 0 < l[l.length - 1] ∧ l[l.length - 1] ≤ 127 := by
 intro l
 induction l with
 | nil => intro h; exact absurd h id
 | cons b l ih =>
  intro h
  cases l with
  | nil => exact ⟨fun i h => by simp at h, by simp, h⟩
  | cons c l =>
   obtain ⟨h1, h2⟩ := h
   obtain ⟨a, hl, d⟩ := ih h2
   refine ⟨fun i hi => ?_, by simp, ?_⟩
   · cases i with
     | zero => exact h1
     | succ i => simp only [List.length_cons, List.getElem_cons_succ] at hi ⊢; exact a i (by simp only [List.length_cons]; omega)
   · simpa using d
theorem uv_shape (x : Int) (h0 : 0 ≤ x) (h1 : x < 128 ^ 10) : ∃ xs, uv 10 x = xs ∧ (∀ i (h : i + 1 < xs.length), 127 < xs[i]) ∧ (∃ h : xs.length - 1 < xs.length, xs[xs.length - 1] ≤ 127 ∧ (xs[xs.length - 1] = 0 → xs.length = 1)) := by
 by_cases hz : x = 0
 · subst hz
   exact ⟨[0], rfl, fun i h => by simp at h, by simp, by simp, fun _ => rfl⟩
 · obtain ⟨a, hl, b, c⟩ := tail_at _ (uv_tail 10 x (by omega) h1)
   exact ⟨_, rfl, a, hl, c, fun e => by omega⟩
def wl : List Int → Int
 | [] => 0
 | b :: l => b % 128 + 128 * wl l
theorem uv_wl : ∀ (n : Nat) (x : Int), 0 ≤ x → x < 128 ^ n → wl (uv n x) = x := by
 intro n
 induction n with
 | zero => intro x h0 h1; simp at h1; unfold uv wl; omega
 | succ n ih =>
  intro x h0 h1
  rw [uv]
  by_cases hx : x < 128
  · rw [if_pos hx]; simp only [wl]; omega
  · rw [if_neg hx]
    simp only [wl]
    rw [ih (x / 128) (by omega) (by rw [Int.pow_succ] at h1; exact Int.ediv_lt_of_lt_mul (by omega) h1)]
    omega
theorem wl_snoc : ∀ (l : List Int) (b : Int), wl (l ++ [b]) = wl l + 128 ^ l.length * (b % 128) := by
 intro l
 induction l with
 | nil => intro b; simp [wl]
 | cons a l ih =>
  intro b
  simp only [List.cons_append, wl, ih, List.length_cons, Int.pow_succ]
  generalize (128 : Int) ^ l.length = P
  generalize b % 128 = c
  rw [Int.mul_add, ← Int.mul_assoc, Int.mul_comm 128 P]
  omega
theorem wv_at (s : ByteArray) (p : Nat) (xs : List Int) (h : At s p xs) : ∀ n, n ≤ xs.length → wv s p n = wl (xs.take n) := by
 intro n
 induction n with
 | zero => intro _; simp [wv, wl]
 | succ n ih =>
  intro hn
  rw [wv, ih (by omega), List.take_succ_eq_append_getElem (by omega), wl_snoc, h.2 n (by omega), List.length_take, Nat.min_eq_left (by omega), Int.mul_comm]
theorem uv_read (s : ByteArray) (p : Nat) (x : Int) (h0 : 0 ≤ x) (h1 : x < 18446744073709551616) (h : At s p (uv 10 x)) (n : Nat) (hn : Stops s p n) : uvAns s p n = (x, ((p + (uv 10 x).length : Nat) : Int), 0) := by
 have hx : x < 128 ^ 10 := by have : (128 : Int) ^ 10 = 1180591620717411303424 := by decide
                              omega
 obtain ⟨xs, hxs, a, hlt, c, d⟩ := uv_shape x h0 hx
 have hw := uv_wl 10 x h0 hx
 have hl := uv_length 10 x
 rw [hxs] at h hw hl ⊢
 clear hxs
 have hlast := h.2 (xs.length - 1) (by omega)
 have hen : n = xs.length - 1 := by
  rcases Nat.lt_trichotomy n (xs.length - 1) with hlt | he | hgt
  · exfalso
    have hbyte := h.2 n (by omega)
    have := a n (by omega)
    have := h.1
    rcases hn.last with q | q | q
    · omega
    · omega
    · omega
  · exact he
  · exfalso
    have := (hn.more (xs.length - 1) hgt).2
    rw [hlast] at this
    omega
 have hsz := h.1
 have hbn : bt s ((p + n : Nat) : Int) = xs[xs.length - 1] := by rw [hen]; exact hlast
 have hval : wv s p (n + 1) = x := by rw [wv_at s p xs h (n + 1) (by omega), List.take_of_length_le (by omega), hw]
 have h9 : n = 9 → bt s ((p + n : Nat) : Int) ≤ 1 := by
  intro e9
  have hwv := hval
  rw [wv] at hwv
  subst e9
  have g0 := wv_lt s p 9
  have gb := bt_range s ((p + 9 : Nat) : Int)
  have hc : bt s ((p + 9 : Nat) : Int) ≤ 127 := by rw [hbn]; exact c
  by_cases hle : bt s ((p + 9 : Nat) : Int) ≤ 1
  · exact hle
  · exfalso
    have h2 : 2 * 128 ^ 9 ≤ (bt s ((p + 9 : Nat) : Int) % 128) * 128 ^ 9 := Int.mul_le_mul_of_nonneg_right (by omega) (by omega)
    have : (128 : Int) ^ 9 = 9223372036854775808 := by decide
    omega
 unfold uvAns
 have n1 : ¬ (n < 10 ∧ p + n = s.size) := by omega
 have n2 : ¬ (n = 10 ∨ (n = 9 ∧ 1 < bt s ((p + n : Nat) : Int))) := by
  rintro (e | ⟨e, e'⟩)
  · omega
  · have := h9 e; omega
 have n3 : ¬ (0 < n ∧ bt s ((p + n : Nat) : Int) = 0) := by
  rintro ⟨e, e'⟩
  rw [hbn] at e'
  have := d e'
  omega
 rw [if_neg n1, if_neg n2, if_neg n3, hval, show p + n + 1 = p + xs.length by omega]
theorem unzig_zz (i : Int) : unzig (zz i) = i := by
 unfold unzig zz
 by_cases h : 0 ≤ i
 · rw [if_pos h, if_pos (by omega)]; omega
 · rw [if_neg h, if_neg (by omega)]; omega
theorem size0 {s : ByteArray} (h : s.size = 0) : s = ⟨#[]⟩ := by
 apply ByteArray.ext
 exact Array.eq_empty_of_size_eq_zero h
theorem extract_at (s t : ByteArray) (p : Nat) (h : At s p (bytesOf t)) : s.extract p (p + t.size) = t := by
 obtain ⟨h1, h2⟩ := h
 rw [bytesOf_length] at h1
 apply Go.WideShapes.bytes_inj
 rw [Lib.extract_data]
 apply List.ext_getElem
 · simp only [List.length_take, List.length_drop, data_length]; omega
 · intro i a b
   rw [data_length] at b
   have e := h2 i (by rw [bytesOf_length]; exact b)
   rw [bt_data s (p + i) (by omega)] at e
   simp only [bytesOf, List.getElem_map] at e
   simp only [List.getElem_take, List.getElem_drop]
   apply UInt8.toNat_inj.1
   exact_mod_cast e
theorem col_back (s : ByteArray) (p n : Nat) (x : S84) (hg : goodVal x) (hf : fault x = 0) (h : At s p (colV x)) (hn : Stops s p n) : colR s x.f0 p n = .ok (x, p + (colV x).length) := by
 obtain ⟨g0, g1, g2, g3, g4⟩ := hg
 rw [fault_kind x ⟨g2, g3⟩] at hf
 unfold colR
 unfold colV colB at h ⊢
 by_cases h0 : x.f0 = 0
 · rw [if_pos h0] at hf h ⊢
   rw [if_pos h0]
   have hc : x.f1 = 0 ∧ x.f2.size = 0 := by
    by_cases hc : x.f1 = 0 ∧ x.f2.size = 0
    · exact hc
    · rw [if_neg hc] at hf; omega
   have : x = z84 := by
    obtain ⟨a, b, c⟩ := x
    simp only at h0 hc
    rw [h0, hc.1, size0 hc.2]; rfl
   rw [this]; rfl
 rw [if_neg h0] at hf h ⊢
 rw [if_neg h0]
 by_cases h1 : x.f0 = 1
 · rw [if_pos h1] at hf h ⊢
   rw [if_pos h1]
   have hc : (x.f1 = 0 ∨ x.f1 = 1) ∧ x.f2.size = 0 := by
    by_cases hc : (x.f1 = 0 ∨ x.f1 = 1) ∧ x.f2.size = 0
    · exact hc
    · rw [if_neg hc] at hf; omega
   have hb := h.2 0 (by simp)
   simp only [Nat.add_zero, List.getElem_cons_zero] at hb
   have hsz := h.1
   simp only [List.length_cons, List.length_nil] at hsz
   rw [if_pos (by omega), hb, if_pos (by omega)]
   obtain ⟨a, b, c⟩ := x
   simp only at h1 hc hb ⊢
   rw [h1, size0 hc.2, show b % 256 = b by omega]
   rfl
 rw [if_neg h1] at hf h ⊢
 rw [if_neg h1]
 by_cases h2 : x.f0 = 2
 · rw [if_pos h2] at hf h ⊢
   rw [if_pos h2]
   have hc : x.f2.size = 0 := by
    by_cases hc : x.f2.size = 0
    · exact hc
    · rw [if_neg hc] at hf; omega
   have hz : 0 ≤ zz x.f1 ∧ zz x.f1 < 18446744073709551616 := by unfold zz; split <;> omega
   have hu := uv_read s p (zz x.f1) hz.1 hz.2 h n hn
   unfold svAns
   rw [hu, if_pos rfl]
   simp only [unzig_zz]
   rw [if_pos trivial]
   obtain ⟨a, b, c⟩ := x
   simp only at h2 hc ⊢
   rw [h2, size0 hc]
   rfl
 rw [if_neg h2] at hf h ⊢
 rw [if_neg h2]
 have h3 : x.f0 = 3 := by omega
 rw [if_pos h3] at hf
 have hc : x.f1 = 0 := by
  by_cases hc : x.f1 = 0
  · exact hc
  · rw [if_neg hc] at hf; omega
 obtain ⟨ha, hb⟩ := h.app
 have hu := uv_read s p (x.f2.size : Int) (by omega) (by omega) ha n hn
 have hsz := hb.1
 rw [bytesOf_length] at hsz
 have hex := extract_at s x.f2 _ hb
 have htx : txAns s p n = (x.f2, ((p + (uv 10 (x.f2.size : Int)).length : Nat) : Int) + (x.f2.size : Int), 0) := by
  unfold txAns
  rw [hu, if_pos rfl, if_neg (show ¬ (x.f2.size : Int) > 4096 by omega), if_neg (show ¬ ((p + (uv 10 (x.f2.size : Int)).length : Nat) : Int) + (x.f2.size : Int) > (s.size : Int) by omega)]
  have e1 : (((p + (uv 10 (x.f2.size : Int)).length : Nat) : Int)).toNat = p + (uv 10 (x.f2.size : Int)).length := Int.toNat_natCast _
  have e2 : (((p + (uv 10 (x.f2.size : Int)).length : Nat) : Int) + (x.f2.size : Int)).toNat = p + (uv 10 (x.f2.size : Int)).length + x.f2.size := by omega
  simp only
  rw [e1, e2, hex]
 rw [htx, if_pos rfl, List.length_append, bytesOf_length]
 have e2 : (((p + (uv 10 (x.f2.size : Int)).length : Nat) : Int) + (x.f2.size : Int)).toNat = p + ((uv 10 (x.f2.size : Int)).length + x.f2.size) := by omega
 simp only
 rw [e2]
 obtain ⟨a, b, c⟩ := x
 simp only at h3 hc ⊢
 rw [h3, hc]
theorem all_back (s : ByteArray) : ∀ (l : List S84) (p : Nat), (∀ x ∈ l, goodVal x ∧ fault x = 0) → At s p (l.flatMap colV) → allR s (l.map (·.f0)) p = .ok (l, p + (l.flatMap colV).length) := by
 intro l
 induction l with
 | nil => intro p _ _; rfl
 | cons x l ih =>
  intro p hx h
  rw [List.flatMap_cons] at h ⊢
  obtain ⟨ha, hb⟩ := h.app
  have hp : p ≤ s.size := by have := ha.1; omega
  have hn := stopOf_is s p hp
  obtain ⟨hg, hf⟩ := hx x (by simp)
  rw [List.map_cons, allR, col_back s p _ x hg hf ha hn]
  simp only
  rw [ih _ (fun y hy => hx y (by simp [hy])) hb]
  simp only [List.length_append, Nat.add_assoc]
def kindAt (l : List S84) (i : Nat) : Int := if l.length ≤ i then 0 else (rd_T84 l (i : Int)).f0
theorem unp_grp (l : List S84) (j : Nat) (hg : ∀ k, k < l.length → 0 ≤ (rd_T84 l (k : Int)).f0 ∧ (rd_T84 l (k : Int)).f0 < 4) : unp (grp l l.length j) = [kindAt l (4 * j), kindAt l (4 * j + 1), kindAt l (4 * j + 2), kindAt l (4 * j + 3)] := by
 have h : ∀ i, 0 ≤ kindAt l i ∧ kindAt l i < 4 := by
  intro i
  unfold kindAt
  split
  · omega
  · exact hg i (by omega)
 have e : grp l l.length j = kindAt l (4 * j) + 4 * kindAt l (4 * j + 1) + 16 * kindAt l (4 * j + 2) + 64 * kindAt l (4 * j + 3) := by
  unfold grp kindAt
  split <;> split <;> split <;> split <;> omega
 have h0 := h (4 * j)
 have h1 := h (4 * j + 1)
 have h2 := h (4 * j + 2)
 have h3 := h (4 * j + 3)
 rw [unp_is _ (by omega) (by omega), e]
 congr 1
 · omega
 congr 1
 · omega
 congr 1
 · omega
 congr 1
 omega
theorem kinds_back (s : ByteArray) (l : List S84) (hg : ∀ k, k < l.length → 0 ≤ (rd_T84 l (k : Int)).f0 ∧ (rd_T84 l (k : Int)).f0 < 4) : ∀ n, (∀ j, j < n → bt s ((1 + j : Nat) : Int) = grp l l.length j) → kindsOf s n = (List.range (4 * n)).map (kindAt l) := by
 intro n
 induction n with
 | zero => intro _; rfl
 | succ n ih =>
  intro h
  rw [kindsOf_succ, ih (fun j hj => h j (by omega)), h n (by omega), unp_grp l n hg, show 4 * (n + 1) = 4 * n + 1 + 1 + 1 + 1 by omega, List.range_succ, List.range_succ, List.range_succ, List.range_succ]
  simp
theorem read_back (l : List S84) (hl : l.length ≤ 16) (hx : ∀ x ∈ l, goodVal x ∧ fault x = 0) : readR (strOfNums (rowB l)) = .ok l := by
 have hg4 : ∀ k, k < l.length → 0 ≤ (rd_T84 l (k : Int)).f0 ∧ (rd_T84 l (k : Int)).f0 < 4 := fun k hk => by
  rw [rd84_at l k hk]
  have := (hx _ (List.getElem_mem hk)).1
  exact ⟨this.1, this.2.1⟩
 have hbytes : ∀ y ∈ rowB l, 0 ≤ y ∧ y < 256 := by
  intro y hy
  unfold rowB hdB at hy
  rcases List.mem_append.1 hy with hy | hy
  · rcases List.mem_cons.1 hy with rfl | hy
    · omega
    · obtain ⟨j, _, rfl⟩ := List.mem_map.1 hy
      have := grp_bd l l.length j (Nat.le_refl _) hg4
      omega
  · obtain ⟨x, hm, hy⟩ := List.mem_flatMap.1 hy
    obtain ⟨⟨a0, a1, a2, a3, a4⟩, _⟩ := hx x hm
    unfold colV colB at hy
    split at hy
    · simp at hy
    split at hy
    · simp only [List.mem_singleton] at hy; omega
    split at hy
    · exact uv_byte 10 (zz x.f1) (by unfold zz; split <;> omega) y hy
    · rcases List.mem_append.1 hy with hy | hy
      · exact uv_byte 10 _ (by omega) y hy
      · unfold bytesOf at hy
        obtain ⟨b, _, rfl⟩ := List.mem_map.1 hy
        have := b.toNat_lt
        omega
 have hat : At (strOfNums (rowB l)) 0 (rowB l) := by
  have := At.of [] (rowB l) [] hbytes
  simpa using this
 have hat' : At (strOfNums (rowB l)) 0 (hdB l l.length ++ l.flatMap colV) := hat
 obtain ⟨hh, hcols⟩ := hat'.app
 have hhl := hdB_length l l.length
 have hb0 : bt (strOfNums (rowB l)) 0 = (l.length : Int) := by
  have := hh.2 0 (by rw [hhl]; omega)
  simpa [hdB] using this
 have hbj : ∀ j, j < (l.length + 3) / 4 → bt (strOfNums (rowB l)) ((1 + j : Nat) : Int) = grp l l.length j := by
  intro j hj
  have := hh.2 (1 + j) (by rw [hhl]; omega)
  rw [Nat.zero_add] at this
  rw [this]
  simp only [hdB, show 1 + j = j + 1 by omega, List.getElem_cons_succ, List.getElem_map, List.getElem_range]
 have hsz := hat.1
 have hrow : (rowB l).length = (1 + (l.length + 3) / 4) + (l.flatMap colV).length := by unfold rowB; rw [List.length_append, hhl]
 generalize hS : strOfNums (rowB l) = s at *
 have hsize : s.size = (1 + (l.length + 3) / 4) + (l.flatMap colV).length := by rw [← hS, strOfNums_size, hrow]
 have hc : cOf s = l.length := by have := cOf_is s; omega
 have hn : nOf s = (l.length + 3) / 4 := by unfold nOf; rw [hc]
 have hk := kinds_back s l hg4 (nOf s) (by rw [hn]; exact hbj)
 unfold readR
 rw [if_neg (by omega), if_neg (by omega), if_neg (by rw [hn]; omega), hk, hc]
 have htake : ((List.range (4 * nOf s)).map (kindAt l)).take l.length = l.map (·.f0) := by
  apply List.ext_getElem
  · simp; omega
  · intro i a b
    simp only [List.length_map] at b
    simp only [List.getElem_take, List.getElem_map, List.getElem_range]
    unfold kindAt
    rw [if_neg (by omega), rd84_at l i b]
 have hdrop : (((List.range (4 * nOf s)).map (kindAt l)).drop l.length).all (fun x => decide (x = 0)) = true := by
  rw [List.all_eq_true]
  intro y hy
  obtain ⟨i, hi, rfl⟩ := List.getElem_of_mem hy
  simp only [List.getElem_drop, List.getElem_map, List.getElem_range]
  unfold kindAt
  rw [if_pos (by omega)]
  rfl
 rw [if_neg (by rw [hdrop]; simp), htake, hn]
 have hcols' : At s (1 + (l.length + 3) / 4) (l.flatMap colV) := by
  rw [hhl, Nat.zero_add] at hcols
  exact hcols
 rw [all_back s l _ hx hcols']
 simp only [rdEnd]
 rw [if_neg (by omega)]
theorem rows (nm : ByteArray) (num : Int) (cols : List S87) (key : List Int) (row : List S84) (hc : ∀ c ∈ cols, c.f0.size ≤ 1000000000) (hk : ∀ x ∈ key, -9223372036854775808 ≤ x ∧ x ≤ 9223372036854775807) (hn : num ≤ 9223372036854775807) (hx : ∀ x ∈ row, InR x) (hrl : row.length ≤ 1000000000) :
 ∃ k, stratalaw16_PlanRows.f k nm num cols key row = some true := by
 refine Ev.rounds ?_
 unfold stratalaw16_PlanRows.f
 refine Ev.bind (prog_pair nm num cols key row hc hk hn hx) (Ev.bind (ref_pair nm num cols key row hn hx) ?_)
 refine Ev.congr (f := fun k => stratalaw16_PlanRows.j0 k row (pairR nm num cols key row).2.2 false nm num cols key (pairR nm num cols key row).1 (pairR nm num cols key row).2.1) (fun k => ?_) ?_
 · rw [if_neg (by simp)]
   unfold stratalaw16_num.f
   simp
 by_cases hz : (pairR nm num cols key row).2.2 = 0
 ·
  have hp : ∃ D, (pairR nm num cols key row) = (D, strOfNums (rowB row), 0) ∧ row.length ≤ 16 ∧ (strOfNums (rowB row)).size ≤ 512 ∧ ∀ x ∈ row, goodVal x ∧ fault x = 0 := by
   have hz' := hz
   unfold pairR at hz' ⊢
   cases ht : isTab nm num cols key with
   | false => rw [ht, if_neg (by simp)] at hz'; simp [noPair] at hz'
   | true =>
    rw [ht, if_pos rfl] at hz'
    rw [if_pos rfl]
    unfold isTab lens at ht
    simp only [Bool.and_eq_true, decide_eq_true_eq] at ht
    obtain ⟨⟨_, _, hn1, _, hc16, _, hk8⟩, _⟩ := ht
    by_cases hl : row.length = cols.length
    · rw [if_pos hl] at hz' ⊢
      by_cases hw : wrAll row cols = 0
      · rw [if_pos hw] at hz' ⊢
        have hf := wrAll_zero row cols hl hw
        unfold restR at hz' ⊢
        by_cases c1 : ((strOfNums ((keyL num key row).flatMap layV)).size : Int) > 160
        · rw [if_pos c1] at hz'; simp [noPair] at hz'
        rw [if_neg c1] at hz' ⊢
        by_cases c2 : ((strOfNums (rowB row)).size : Int) > 512
        · rw [if_pos c2] at hz'; simp [noPair] at hz'
        rw [if_neg c2]
        exact ⟨_, rfl, by omega, by omega, fun x hm => ⟨fault_good (hx x hm) (hf x hm), hf x hm⟩⟩
      · rw [if_neg hw] at hz'
        exact absurd hz' hw
    · rw [if_neg hl] at hz'; simp [noPair] at hz'
  obtain ⟨D, he, h16, h512, hgood⟩ := hp
  have hone : pairRowR nm num cols key (pairR nm num cols key row).1 (pairR nm num cols key row).2.1 = (row, 0) := by
   unfold pairRowR
   rw [he, read_back row h16 hgood]
   simp only
   rw [if_pos he]
  have hprog := prog_pairRow nm num cols key (pairR nm num cols key row).1 (pairR nm num cols key row).2.1 hc hk hn (by rw [he]; simp only; omega)
  rw [hone] at hprog
  refine Ev.step (f := fun k => (plan_PairRow.f k nm num cols key (pairR nm num cols key row).1 (pairR nm num cols key row).2.1).bind fun bt271 => ((stratalaw16_sameValues.f k bt271.1 row).bind fun t275 => (if t275 = true then ((stratalaw16_num.f bt271.2).bind fun t276 => (some (t276 == 0))) else (some false)))) (fun k => ?_) (Ev.bind hprog (Ev.bind (same_is row hrl) (Ev.congr (fun k => ?_) (Ev.now true))))
  · simp only [stratalaw16_PlanRows.j0]
    rw [if_neg (by simp), if_pos hz]
  · rw [if_pos rfl]
    rfl
 · refine Ev.step (f := fun _ => some true) (fun k => ?_) (Ev.now _)
   simp only [stratalaw16_PlanRows.j0]
   rw [if_neg (by simp), if_neg hz]
end Go.Proofs.YtggbhdcgfnjogaaDoor.PlanLaw

