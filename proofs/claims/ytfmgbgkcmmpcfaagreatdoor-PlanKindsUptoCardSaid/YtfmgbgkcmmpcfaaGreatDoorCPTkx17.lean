import Derived.Test.YtfmgbgkcmmpcfaaGreatDoorCPTkx0
import Derived.Test.YtfmgbgkcmmpcfaaGreatDoorCPTkx1
import Derived.Test.YtfmgbgkcmmpcfaaGreatDoorCPTkx2
import Derived.Test.YtfmgbgkcmmpcfaaGreatDoorCPTkx3
import Derived.Test.YtfmgbgkcmmpcfaaGreatDoorCPTkx4
import Derived.Test.YtfmgbgkcmmpcfaaGreatDoorCPTkx5
import Derived.Test.YtfmgbgkcmmpcfaaGreatDoorCPTkx6
import Derived.Test.YtfmgbgkcmmpcfaaGreatDoorCPTkx9
import Derived.Test.YtfmgbgkcmmpcfaaGreatDoorCPTkx10
import Derived.Test.YtfmgbgkcmmpcfaaGreatDoorCPTkx12
import Derived.Test.YtfmgbgkcmmpcfaaGreatDoorCPTkx13
import Derived.Test.YtfmgbgkcmmpcfaaGreatDoorCPTkx14
import Derived.Test.YtfmgbgkcmmpcfaaGreatDoorCPTkx15
import Derived.Test.YtfmgbgkcmmpcfaaGreatDoorCPTkx16
namespace Go.Proofs.YtfmgbgkcmmpcfaaGreatDoor.PTk
open Go.RowKit Go.Proofs.YtfmgbgkcmmpcfaaGreatDoorW.PrintWords Go.Proofs.YtfmgbgkcmmpcfaaGreatDoorW.PrintLast Go.Proofs.YtfmgbgkcmmpcfaaGreatDoorW.PrintMore
attribute [local go_sem] zp zC
set_option linter.unusedVariables false
set_option linter.unusedSimpArgs false
theorem eq_le (m c : Int) : (m == c) = (decide (c ≤ m) && decide (m ≤ c)) := by
 by_cases h : m = c
 · subst h; simp
 · by_cases h1 : c ≤ m
   · have h2 : ¬ m ≤ c := by omega
     simp [h, h1, h2]
   · simp [h, h1]
theorem if_le (m : Int) : (if 1 ≤ m then some (decide (m ≤ 16)) else some false) = some (decide (1 ≤ m) && decide (m ≤ 16)) := by
 by_cases h : 1 ≤ m <;> simp [h]
theorem takes_ref (s : ByteArray) (n : Nat) : qx.f 1 s (n : Int) = some (vA s n) := by
 unfold qx.f vA xr
 by_cases h0 : s.toList = ([97, 98, 115] : List UInt8)
 · simp [h0, qx.j0]
   first | exact eq_le _ _ | exact if_le _
 by_cases h1 : s.toList = ([108, 101, 110, 103, 116, 104] : List UInt8)
 · simp [h1, qx.j0]
   first | exact eq_le _ _ | exact if_le _
 by_cases h2 : s.toList = ([108, 111, 119, 101, 114] : List UInt8)
 · simp [h2, qx.j0]
   first | exact eq_le _ _ | exact if_le _
 by_cases h3 : s.toList = ([117, 112, 112, 101, 114] : List UInt8)
 · simp [h3, qx.j0]
   first | exact eq_le _ _ | exact if_le _
 by_cases h4 : s.toList = ([110, 117, 108, 108, 105, 102] : List UInt8)
 · simp [h4, qx.j0]
   first | exact eq_le _ _ | exact if_le _
 by_cases h5 : s.toList = ([115, 117, 98, 115, 116, 114] : List UInt8)
 · simp [h5, qx.j0]
   first | exact eq_le _ _ | exact if_le _
 by_cases h6 : s.toList = ([99, 111, 97, 108, 101, 115, 99, 101] : List UInt8)
 · simp [h6, qx.j0]
   first | exact eq_le _ _ | exact if_le _
 by_cases h7 : s.toList = ([108, 101, 97, 115, 116] : List UInt8)
 · simp [h7, qx.j0]
   first | exact eq_le _ _ | exact if_le _
 by_cases h8 : s.toList = ([103, 114, 101, 97, 116, 101, 115, 116] : List UInt8)
 · simp [h8, qx.j0]
   first | exact eq_le _ _ | exact if_le _
 simp only [h0, h1, h2, h3, h4, h5, h6, h7, h8, if_false, qx.j0, beq_iff_eq]
 simp
theorem name_ref (x : Nd) : qz.f 1 x.f0 x.f1 x.f2 x.f3 = some (xa x) := by
 rw [← holds_at x]
 have hn : zw.f x.f3 = (if (x.f3.size : Int) ≥ 1 then (some (decide ((x.f3.size : Int) ≤ 32))) else (some false)) := by
  unfold zw.f
  have hl : x.f3.toList.length = x.f3.size := by rw [ByteArray.toList_eq]; exact clen x.f3
  by_cases h : x.f3.toList = ([] : List UInt8)
  · rw [if_pos h, if_neg]
    rw [h] at hl
    simp at hl
    omega
  · rw [if_neg h, if_pos]
    have : x.f3.toList.length ≠ 0 := fun h0 => h (List.length_eq_zero_iff.1 h0)
    omega
 have hj : ∀ b, qz.j0 1 b x.f0 x.f1 x.f2 x.f3 = tongue_holds.j0 1 b x.f0 x.f1 x.f2 x.f3 := by
  intro b;simp only [qz.j0, tongue_holds.j0, hn]
  by_cases hb : b = true
  · simp [hb]
  · by_cases h2 : x.f0 = 2
    · simp [hb, h2]
    · by_cases h6 : x.f0 = 6
      · simp only [hb, h2, h6, if_false, if_true]
        by_cases hs : (x.f3.size : Int) ≥ 1
        · simp [hs]
        · simp [hs]
      · simp [hb, h2, h6]
 unfold qz.f tongue_holds.f;rw [hj, hj, hj]
 by_cases h1 : x.f2 < 0
 · rw [if_pos h1, if_pos h1]
 rw [if_neg h1, if_neg h1]
 by_cases h2 : x.f2 = 0
 · rw [if_pos h2, if_neg (by omega)]
 · rw [if_neg h2, if_pos (by omega)]
theorem zero_eq (n : Nat) : ((n : Int) == 0) = decide (n = 0) := by
 by_cases h : n = 0
 · subst h; rfl
 · have h2 : ¬ (n : Int) = 0 := by omega
   rw [decide_eq_false h]; exact beq_eq_false_iff_ne.2 h2
theorem nat_eq (n c : Nat) : ((n : Int) == (c : Int)) = decide (n = c) := by
 by_cases h : n = c
 · subst h; simp
 · have h2 : ¬ (n : Int) = (c : Int) := by omega
   rw [decide_eq_false h]; exact beq_eq_false_iff_ne.2 h2
theorem arity_ref (op f2 : Int) (s : ByteArray) (n : Nat) : qq.f 3 op (n : Int) f2 s = some (qY op s n) := by
 have e1 := nat_eq n 1;have e2 := nat_eq n 2;have e3 := nat_eq n 3;have e0 := zero_eq n
 by_cases a1 : 1 ≤ op ∧ op ≤ 6
 · have hT : qY op s n = decide (n = 0) := by unfold qY; rw [if_pos a1]
   rw [hT, ← e0]
   have hc : op = 1 ∨ op = 2 ∨ op = 3 ∨ op = 4 ∨ op = 5 ∨ op = 6 := by omega
   rcases hc with rfl | rfl | rfl | rfl | rfl | rfl <;> rfl
 by_cases a2 : 7 ≤ op ∧ op ≤ 10
 · have hT : qY op s n = decide (n = 1) := by unfold qY; rw [if_neg a1, if_pos a2]
   rw [hT, ← e1]
   have hc : op = 7 ∨ op = 8 ∨ op = 9 ∨ op = 10 := by omega
   rcases hc with rfl | rfl | rfl | rfl <;> rfl
 have hf : qq.f 3 op (n : Int) f2 s = qq.j1 2 (n : Int) op false op (n : Int) f2 s := by
  have b6 : (op == 6) = false := by simp; omega
  have ai : (op == 10) = false := by simp; omega
  unfold qq.f;rw [if_neg (by omega), if_neg (by omega), if_neg (by omega), if_neg (by omega), if_neg (by omega), b6];rw [qq.j0];rw [if_neg (by decide), if_neg (by omega), if_neg (by omega), if_neg (by omega), ai]
 rw [hf, qq.j1, if_neg (by decide)];unfold qY;rw [if_neg a1, if_neg a2]
 by_cases a3 : 11 ≤ op ∧ op ≤ 25
 · rw [if_pos a3, if_neg (by omega), if_neg (by omega), if_neg (by omega), if_neg (by omega), if_pos (by omega), if_pos (by omega), ← e2]
   rfl
 rw [if_neg a3]
 by_cases a4 : op = 26
 · rw [if_pos a4, if_pos a4, ← e3]; rfl
 rw [if_neg a4, if_neg a4]
 by_cases a5 : op = 27
 · rw [if_pos a5, if_pos a5]
   by_cases h : 2 ≤ n
   · rw [if_pos (by omega)]
     by_cases h9 : n ≤ 17
     · rw [decide_eq_true (by omega), decide_eq_true (⟨h, h9⟩ : 2 ≤ n ∧ n ≤ 17)]
     · rw [decide_eq_false (by omega), decide_eq_false (fun h8 : 2 ≤ n ∧ n ≤ 17 => h9 h8.2)]
   · rw [if_neg (by omega), decide_eq_false (fun h8 : 2 ≤ n ∧ n ≤ 17 => h h8.1)]
 rw [if_neg a5, if_neg a5]
 by_cases a6 : op = 28
 · rw [if_pos a6, if_pos a6]
   by_cases h : 3 ≤ n
   · rw [if_pos (by omega)]
     by_cases h2 : n ≤ 33
     · rw [if_pos (by omega), Int.tmod_eq_emod_of_nonneg (by omega)]
       have e : ((n : Int) % 2 == 1) = decide (n % 2 = 1) := by
        by_cases h3 : n % 2 = 1
        · have : (n : Int) % 2 = 1 := by omega
          simp [h3, this]
        · have : ¬ (n : Int) % 2 = 1 := by omega
          simp [h3, this]
       rw [e]; simp [h, h2]
     · rw [if_neg (by omega), decide_eq_false (fun h8 : 3 ≤ n ∧ n ≤ 33 ∧ n % 2 = 1 => h2 h8.2.1)]
   · rw [if_neg (by omega), decide_eq_false (fun h8 : 3 ≤ n ∧ n ≤ 33 ∧ n % 2 = 1 => h h8.1)]
 rw [if_neg a6, if_neg a6]
 by_cases a7 : op = 29
 · rw [if_pos a7, if_pos a7, takes_ref]; rfl
 rw [if_neg a7, if_neg a7]
 by_cases a8 : op ≥ 11
 · rw [if_pos a8, if_neg (by omega)]
 · rw [if_neg a8]
theorem vt (c : Int) (h0 : 0 ≤ c) (h1 : c ≤ 2000000000) : wrap64 c = c := by
 unfold wrap64
 omega
theorem wants_ref (op : Int) (k : Nat) (h1 : 1 ≤ op) (h2 : op ≤ 29) (hk : k ≤ 1000000) : qk.f 4 op (k : Int) = some (zu op k) := by
 have w1 := vt (1 + (k : Int)) (by omega) (by omega);have w2 := vt (2 + (k : Int)) (by omega) (by omega);have w5 := vt (5 + (k : Int)) (by omega) (by omega);have w6 := vt (6 + (k : Int)) (by omega) (by omega);have w7 := vt (7 + (k : Int)) (by omega) (by omega)
 have hc : op = 1 ∨ op = 2 ∨ op = 3 ∨ op = 4 ∨ op = 5 ∨ op = 6 ∨ op = 7 ∨ op = 8 ∨ op = 9 ∨ op = 10 ∨ op = 11 ∨ op = 12 ∨ op = 13 ∨ op = 14 ∨ op = 15 ∨ op = 16 ∨ op = 17 ∨ op = 18 ∨ op = 19 ∨ op = 20 ∨ op = 21 ∨ op = 22 ∨ op = 23 ∨ op = 24 ∨ op = 25 ∨ op = 26 ∨ op = 27 ∨ op = 28 ∨ op = 29 := by omega
 rcases hc with rfl | rfl | rfl | rfl | rfl | rfl | rfl | rfl | rfl | rfl | rfl | rfl | rfl | rfl | rfl | rfl | rfl | rfl | rfl | rfl | rfl | rfl | rfl | rfl | rfl | rfl | rfl | rfl | rfl <;> simp [qk.f, qk.j0, qk.j1, qk.j2, zu, w1, w2, w5, w6, w7]
 by_cases h : 0 < k <;> simp [h]
theorem vK (op n1 f2 : Int) (s : ByteArray) (ks : List Tr) (h : op = 8 → ks ≠ []) : zc.f op n1 f2 s ks = some (decide (op = 8) && zI (kid ks 0).f0.f0) := by
 unfold zc.f
 by_cases h8 : op = 8
 · have hp : 0 < (ks.length : Int) := by have := List.length_pos_iff.2 (h h8); omega
   have hr : qA ks 0 = kid ks 0 := rfl;rw [if_pos h8, if_pos hp, hr, decide_eq_true h8, Bool.true_and];generalize (kid ks 0).f0.f0 = o
   by_cases a : o = 26
   · subst a; rfl
   rw [if_neg a]
   by_cases b : o = 27
   · subst b; rfl
   rw [if_neg b]
   by_cases c : o = 25
   · subst c; rfl
   · have h1 : zI o = false := (xB o).2 (by omega)
     rw [h1]
     have : (o == 25) = false := by simpa using c
     rw [this]
 · rw [if_neg h8, decide_eq_false h8]; rfl
theorem level_ref (x : Nd) (ks : List Tr) (h1 : 1 ≤ x.f0) (h2 : x.f0 ≤ 29) (h : x.f0 = 8 → ks ≠ []) : qj.f 4 x.f0 x.f1 x.f2 x.f3 ks = some (levI ⟨x, ks⟩) := by
 have hs := vK x.f0 x.f1 x.f2 x.f3 ks h;obtain ⟨op, f1, f2, f3⟩ := x
 dsimp only at h1 h2 h hs ⊢
 have hc : op = 1 ∨ op = 2 ∨ op = 3 ∨ op = 4 ∨ op = 5 ∨ op = 6 ∨ op = 7 ∨ op = 8 ∨ op = 9 ∨ op = 10 ∨ op = 11 ∨ op = 12 ∨ op = 13 ∨ op = 14 ∨ op = 15 ∨ op = 16 ∨ op = 17 ∨ op = 18 ∨ op = 19 ∨ op = 20 ∨ op = 21 ∨ op = 22 ∨ op = 23 ∨ op = 24 ∨ op = 25 ∨ op = 26 ∨ op = 27 ∨ op = 28 ∨ op = 29 := by omega
 rcases hc with rfl | rfl | rfl | rfl | rfl | rfl | rfl | rfl | rfl | rfl | rfl | rfl | rfl | rfl | rfl | rfl | rfl | rfl | rfl | rfl | rfl | rfl | rfl | rfl | rfl | rfl | rfl | rfl | rfl <;> simp [qj.f, qj.j0, qj.j1, qj.j2, levI, lvlI, hs, sug]
 by_cases hm : zI (kid ks 0).f0.f0 = true <;> simp [hm]
theorem zW {i : Int} (h0 : -9223372036854775808 ≤ i) (h1 : i ≤ 9223372036854775807) : wrap64 i = i := by
 unfold wrap64
 omega
def nb (l : List UInt8) : List Int := l.map fun b => (b.toNat : Int)
theorem son (l : List UInt8) : strOfNums (nb l) = str l := by
 unfold strOfNums nb
 apply ByteArray.ext
 apply Array.toList_inj.1
 simp only [List.map_map]
 conv => rhs; rw [← List.map_id l]
 rw [List.map_congr_left];intro c _
 simp
theorem nb_len (l : List UInt8) : (nb l).length = l.length := List.length_map ..
theorem nb_snoc (l : List UInt8) (c : UInt8) : nb l ++ [(c.toNat : Int)] = nb (l ++ [c]) := by simp [nb]
theorem bt_get (s : ByteArray) (i : Nat) (h : i < s.data.toList.length) : bt s (i : Int) = ((s.data.toList[i]).toNat : Int) := by
 have h2 : i < s.size := by rw [← xV]; exact h
 unfold bt;rw [dif_pos (show ((i : Int)).toNat < s.size by omega)]
 rfl
theorem dig_str (u : Nat) (h : u < 10) : strOfNums [(48 + (u : Int)) % 256] = str (Lib.decDigits u) := by
 rw [Lib.decDigits_one h]
 have e : (48 + (u : Int)) % 256 = ((48 + u : Nat) : Int) := by omega
 rw [e]
 rfl
theorem dec_last (u : Nat) (h : ¬ u < 10) : Lib.decDigits u = Lib.decDigits (u / 10) ++ Lib.decDigits (u % 10) := by
 rw [Lib.decDigits_one (show u % 10 < 10 by omega)]
 conv => lhs; rw [Lib.decDigits]
 rw [dif_neg h]
theorem digits_loop : ∀ (n u : Nat) (acc : List UInt8), u < n → acc.length + u ≤ 9223372036854775807 → Ev (fun k => qN.l0 k (u : Int) (str acc)) (str ((if u = 0 then [] else Lib.decDigits u) ++ acc)) := by
 intro n
 induction n with
 | zero => intro u acc h; omega
 | succ n ih =>
  intro u acc hn hb
  by_cases h0 : u = 0
  · subst h0
    refine Ev.step (f := fun _ => some (str acc)) (fun k => ?_) (Ev.now _);show qN.l0 (k + 1) ((0 : Nat) : Int) (str acc) = _;rw [qN.l0, if_neg (by omega)]
  · have l1 : (Lib.decDigits (u % 10)).length = 1 := by rw [Lib.decDigits_one (by omega)]; rfl
    have e := ih (u / 10) (Lib.decDigits (u % 10) ++ acc) (by omega) (by rw [List.length_append, l1]; omega)
    have e3 : (if u / 10 = 0 then [] else Lib.decDigits (u / 10)) ++ (Lib.decDigits (u % 10) ++ acc) = (if u = 0 then [] else Lib.decDigits u) ++ acc := by
     rw [if_neg h0]
     by_cases h : u < 10
     · rw [if_pos (by omega), Nat.mod_eq_of_lt h]; rfl
     · rw [if_neg (by omega), dec_last u h, List.append_assoc]
    rw [← e3];refine Ev.step (fun k => ?_) e;show qN.l0 (k + 1) (u : Int) (str acc) = _;have e1 : Int.tdiv (u : Int) 10 = ((u / 10 : Nat) : Int) := (Int.ofNat_tdiv u 10).symm;have e2 : Int.tmod (u : Int) 10 = ((u % 10 : Nat) : Int) := (Int.ofNat_tmod u 10).symm;rw [qN.l0, if_pos (by omega), Option.bind_some, e1, e2, zW (by omega) (by omega), dig_str _ (by omega), zi, zi, if_pos (by omega), zW (by omega) (by omega), app_str]
theorem digits_ref (n : Int) (h0 : 0 ≤ n) (h1 : n ≤ 9223372036854775807) : Ev (fun k => qN.f k n) (str (Lib.itoa n)) := by
 obtain ⟨u, rfl⟩ : ∃ u : Nat, n = (u : Int) := ⟨n.toNat, by omega⟩;rw [Lib.itoa_nonneg]
 by_cases hz : u = 0
 · subst hz
   refine Ev.congr (f := fun _ => some (str (Lib.decDigits 0))) (fun k => ?_) (Ev.now _);unfold qN.f;rw [if_pos (by omega), Lib.decDigits_one (by omega)]
   rfl
 · have e := digits_loop (u + 1) u [] (by omega) (by have : ([] : List UInt8).length = 0 := rfl; omega)
   rw [if_neg hz, List.append_nil] at e;refine Ev.congr (fun k => ?_) e;unfold qN.f;rw [if_neg (by omega)]
theorem dbl_snoc (q c : UInt8) (l : List UInt8) : dbl q (l ++ [c]) = dbl q l ++ (if c = q then [q, q] else [c]) := by
 unfold dbl;rw [List.flatMap_append]
 simp
theorem byte_eq (a b : UInt8) : ((a.toNat : Int) = (b.toNat : Int)) ↔ a = b := by
 constructor
 · intro h; exact UInt8.toNat_inj.1 (by omega)
 · rintro rfl; rfl
theorem twice_loop (s : ByteArray) (q : UInt8) (hs : s.size ≤ 1000000000) : ∀ (n i : Nat), s.data.toList.length - i < n → i ≤ s.data.toList.length →
 Ev (fun k => qG.l0 k s (q.toNat : Int) (nb (q :: dbl q (s.data.toList.take i))) (i : Int)) (str (quoL q s.data.toList)) := by
 have hl : s.data.toList.length = s.size := xV s;intro n
 induction n with
 | zero => intro i h; omega
 | succ n ih =>
  intro i hn hi;have hd := dbl_len q (s.data.toList.take i)
  have ht : (s.data.toList.take i).length ≤ i := by rw [List.length_take]; omega
  by_cases hlt : i < s.data.toList.length
  · have e := ih (i + 1) (by omega) (by omega)
    refine Ev.step (fun k => ?_) e;show qG.l0 (k + 1) s (q.toNat : Int) (nb (q :: dbl q (s.data.toList.take i))) (i : Int) = _
    have ew : wrap64 ((i : Int) + 1) = ((i + 1 : Nat) : Int) := by rw [zW (by omega) (by omega)]; omega
    have lq : (nb (q :: dbl q (s.data.toList.take i))).length < 140737488355320 := by rw [nb_len, List.length_cons]; omega
    have et : s.data.toList.take (i + 1) = s.data.toList.take i ++ [s.data.toList[i]] := List.take_succ_eq_append_getElem hlt;rw [qG.l0, if_pos (by omega), if_pos (by omega), bt_get s i hlt, ew, et, dbl_snoc]
    by_cases hc : s.data.toList[i] = q
    · rw [if_pos ((byte_eq _ _).2 hc), if_pos (by omega), Option.bind_some, if_pos (by rw [List.length_append, List.length_singleton]; omega), if_pos hc, hc, nb_snoc, nb_snoc]
      simp
    · rw [if_neg (fun h => hc ((byte_eq _ _).1 h)), if_pos (by omega), if_neg hc, nb_snoc]
      simp
  · obtain rfl : i = s.data.toList.length := by omega
    refine Ev.step (f := fun _ => some (str (quoL q s.data.toList))) (fun k => ?_) (Ev.now _);show qG.l0 (k + 1) s (q.toNat : Int) (nb (q :: dbl q (s.data.toList.take s.data.toList.length))) (s.data.toList.length : Int) = _;rw [qG.l0, if_neg (by omega), List.take_length, if_pos (by rw [nb_len, List.length_cons, ← List.take_length (l := s.data.toList)]; omega), nb_snoc, son]
    rfl
theorem twice_ref (s : ByteArray) (q : UInt8) (hs : s.size ≤ 1000000000) : Ev (fun k => qG.f k s (q.toNat : Int)) (str (quoL q s.data.toList)) :=
 twice_loop s q hs (s.data.toList.length + 1) 0 (by omega) (by omega)
theorem name_loop (s : ByteArray) (hs : s.size ≤ 1000000000) : ∀ (n i : Nat) (b : Bool), s.data.toList.length - i < n → i ≤ s.data.toList.length →
 Ev (fun k => qu.l0 k s b (i : Int)) (if (b && (s.data.toList.drop i).all okB) = true then s else str (quoL 34 s.data.toList)) := by
 have hl : s.data.toList.length = s.size := xV s;intro n
 induction n with
 | zero => intro i b h; omega
 | succ n ih =>
  intro i b hn hi
  by_cases hlt : i < s.data.toList.length
  · have e := ih (i + 1) (b && okB s.data.toList[i]) (by omega) (by omega)
    rw [Bool.and_assoc, ← List.all_cons, ← List.drop_eq_getElem_cons hlt] at e;refine Ev.step (fun k => ?_) e;show qu.l0 (k + 1) s b (i : Int) = _
    have ew : wrap64 ((i : Int) + 1) = ((i + 1 : Nat) : Int) := by rw [zW (by omega) (by omega)]; omega
    rw [qu.l0, if_pos (by omega), if_pos (by omega), bt_get s i hlt, ew];generalize s.data.toList[i] = c
    have hd : qR.f (c.toNat : Int) = some (decide (48 ≤ c.toNat ∧ c.toNat ≤ 57)) := by
     unfold qR.f
     by_cases h1 : 48 ≤ c.toNat
     · rw [if_pos (by omega)]
       by_cases h2 : c.toNat ≤ 57
       · rw [decide_eq_true (by omega), decide_eq_true ⟨h1, h2⟩]
       · rw [decide_eq_false (by omega), decide_eq_false (fun h => h2 h.2)]
     · rw [if_neg (by omega), decide_eq_false (fun h => h1 h.1)]
    rw [hd];simp only [Option.bind_some]
    by_cases ho : okB c = true
    · rw [ho, Bool.and_true]
      unfold okB xv at ho;simp only [decide_eq_true_eq] at ho
      by_cases c1 : (c.toNat : Int) ≥ 97
      · rw [if_pos c1]
        by_cases c2 : (c.toNat : Int) ≤ 122
        · rw [if_pos c2]
        · omega
      · rw [if_neg c1]
        by_cases c3 : 48 ≤ c.toNat ∧ c.toNat ≤ 57
        · rw [if_pos (decide_eq_true c3)]
        · rw [if_neg (by rw [decide_eq_false c3]; decide), if_pos (by omega)]
    · have aa : okB c = false := by simpa using ho
      rw [aa, Bool.and_false];unfold okB xv at aa;simp only [decide_eq_false_iff_not] at aa
      have c3 : ¬ (48 ≤ c.toNat ∧ c.toNat ≤ 57) := by omega
      rw [decide_eq_false c3]
      by_cases c1 : (c.toNat : Int) ≥ 97
      · rw [if_pos c1, if_neg (by omega), if_neg (by decide), if_neg (by omega)]
      · rw [if_neg c1, if_neg (by decide), if_neg (by omega)]
  · obtain rfl : i = s.data.toList.length := by omega
    rw [List.drop_length, List.all_nil, Bool.and_true]
    cases b with
    | true =>
     refine Ev.step (f := fun _ => some s) (fun k => ?_) (Ev.now _);show qu.l0 (k + 1) s true (s.data.toList.length : Int) = _;rw [qu.l0, if_neg (by omega), if_pos rfl]
    | false =>
     refine Ev.step (f := fun k => (qG.f k s 34).bind fun ab => (some ab)) (fun k => ?_) (Ev.bind (twice_ref s 34 hs) (Ev.now _));show qu.l0 (k + 1) s false (s.data.toList.length : Int) = _;rw [qu.l0, if_neg (by omega), if_neg (by decide)]
theorem name_print (s : ByteArray) (h0 : 0 < s.size) (hs : s.size ≤ 1000000000) : Ev (fun k => qu.f k s) (str (vG s.data.toList)) := by
 have hl : s.data.toList.length = s.size := xV s
 have hj : ∀ b : Bool, Ev (fun k => qu.j0 k s b) (if (b && s.data.toList.all okB) = true then s else str (quoL 34 s.data.toList)) := by
  intro b;have e := name_loop s hs (s.data.toList.length + 1) 0 b (by omega) (by omega);rw [List.drop_zero] at e;refine Ev.step (fun k => ?_) e;show qu.j0 (k + 1) s b = _;rw [qu.j0]
  rfl
 have ab : bt s 0 = ((s.data.toList.headD 0).toNat : Int) := by
  have h := bt_get s 0 (by omega);rw [List.headD_eq_head?_getD, List.head?_eq_getElem?, List.getElem?_eq_getElem (by omega)]
  exact h
 have hd : qR.f (bt s 0) = some (digB (s.data.toList.headD 0)) := by
  rw [ab];generalize s.data.toList.headD 0 = c;unfold qR.f digB
  by_cases h1 : 48 ≤ c.toNat
  · rw [if_pos (by omega)]
    by_cases h2 : c.toNat ≤ 57
    · rw [decide_eq_true (by omega), decide_eq_true ⟨h1, h2⟩]
    · rw [decide_eq_false (by omega), decide_eq_false (fun h => h2 h.2)]
  · rw [if_neg (by omega), decide_eq_false (fun h => h1 h.1)]
 have hu : zg.f s = some (str (upL s.data.toList)) := by unfold zg.f; rw [if_pos hs]
 have hk : za.f (str (upL s.data.toList)) = some (kwB (upL s.data.toList)) := by
  unfold za.f;rw [if_pos (by rw [zi]; unfold upL; rw [List.length_map]; omega)]
 have hunf : ∀ k, qu.f k s = if digB (s.data.toList.headD 0) = true then qu.j0 k s false else qu.j0 k s (!(kwB (upL s.data.toList))) := by
  intro k;unfold qu.f;rw [if_pos (by omega), if_pos (by omega), hd, hu];simp only [Option.bind_some, hk]
 by_cases hdg : digB (s.data.toList.headD 0) = true
 · refine Ev.congr (f := fun k => qu.j0 k s false) (fun k => by rw [hunf, if_pos hdg]) ?_
   rw [xf _ (.inr (.inr hdg))]
   exact hj false
 · refine Ev.congr (f := fun k => qu.j0 k s (!(kwB (upL s.data.toList)))) (fun k => by rw [hunf, if_neg hdg]) ?_
   have e := hj (!(kwB (upL s.data.toList)))
   by_cases hw : kwB (upL s.data.toList) = true
   · rw [xf _ (.inl hw)]
     rw [hw] at e ⊢
     exact e
   · have ae : kwB (upL s.data.toList) = false := by simpa using hw
     rw [ae] at e ⊢
     by_cases ha : s.data.toList.all okB = true
     · rw [nameL_bare _ (fun h => h.elim hw fun h => h.elim (fun h => by rw [ha] at h; cases h) hdg), str_of]
       rw [ha] at e
       exact e
     · have aa : s.data.toList.all okB = false := by simpa using ha
       rw [xf _ (.inr (.inl aa))];rw [aa] at e
       exact e
theorem ev_step {α : Type} {g f : Nat → Option α} {r : α} (h : ∃ K, ∀ k, K ≤ k → g (k + 1) = f k) (e : Ev f r) : Ev g r := by
 obtain ⟨K1, h1⟩ := h;obtain ⟨K2, h2⟩ := e;refine ⟨max K1 K2 + 1, fun k hk => ?_⟩;obtain ⟨q, rfl⟩ : ∃ q, k = q + 1 := ⟨k - 1, by omega⟩;rw [h1 q (by omega), h2 q (by omega)]
theorem zm (a b : List UInt8) : str a ++ str b = str (a ++ b) := app_str a b
theorem totz_drop : ∀ (l : List (Tr × Tx)) (a : Nat), totz (l.drop a) ≤ totz l
 | [], a => by simp
 | p :: r, 0 => by simp
 | p :: r, a + 1 => by
  have := totz_drop r a;simp only [List.drop_succ_cons, totz]
  omega
theorem tot_at (ks : List Tr) (i : Nat) (h : i < ks.length) : (shw ks[i]).1.length + 10 ≤ tot (shws ks) := by
 have h1 := xY ks (shws ks);have h2 := tot_take (its ks) i (by rw [vi]; exact h);have h3 : totz (its ks) = totz (ks.zip (shws ks)) := rfl
 have h4 : ∀ (l : List (Tr × Tx)) (i : Nat) (h : i < l.length), l[i].2.1.length + 10 ≤ totz l := by
  intro l
  induction l with
  | nil => intro i h; simp at h
  | cons p r ih =>
   intro i h
   cases i with
   | zero => simp only [List.getElem_cons_zero, totz]; omega
   | succ i => have := ih i (by simpa using h); simp only [List.getElem_cons_succ, totz]; omega
 have h5 := h4 (its ks) i (by rw [vi]; exact h);rw [its_at ks i h] at h5
 dsimp only at h5
 omega
section
set_option linter.unusedSectionVars false
variable [Inhabited vT]
structure KidOK (t : Tr) : Prop where
 lo : 1 ≤ t.f0.f0
 hi : t.f0.f0 ≤ 29
 nots : t.f0.f0 = 8 → t.f1 ≠ []
 shown : (default : vT).S t.f0.f0 t.f0.f1 t.f0.f2 t.f0.f3 t.f1 = some (str (shw t).1)
structure xF (ks : List Tr) : Prop where
 kids : ∀ t ∈ ks, KidOK t
 few : ks.length ≤ 100
 sized : tot (shws ks) ≤ 140737488355328
theorem opn_len {x : Nd} {ks : List Tr} {i : Nat} (h : i < ks.length) : (opn x ks (shws ks) i).length + 8 ≤ tot (shws ks) := by
 have h1 := opd_len (zu x.f0 i) (kid ks i) (txt (shws ks) i).1;rw [xS ks i h] at h1;have h2 := tot_at ks i h;unfold opn;rw [xS ks i h]
 omega
theorem zA (x : Nd) (ks : List Tr) (hK : xF ks) (h1 : 1 ≤ x.f0) (h2 : x.f0 ≤ 29) (i : Nat) (hi : i < ks.length) :
 Ev (fun k => qp.f k x.f0 x.f1 x.f2 x.f3 ks (i : Int)) (str (opn x ks (shws ks) i)) := by
 refine ⟨4, fun k hk => ?_⟩;have hkid := hK.kids ks[i] (List.getElem_mem hi)
 have hl : qj.f k ks[i].f0.f0 ks[i].f0.f1 ks[i].f0.f2 ks[i].f0.f3 ks[i].f1 = some (levI ks[i]) :=
  at_rounds (g := fun k => qj.f k ks[i].f0.f0 ks[i].f0.f1 ks[i].f0.f2 ks[i].f0.f3 ks[i].f1) (fun k => qj.mono _ _ _ _ _ k) hk (level_ref ks[i].f0 ks[i].f1 hkid.lo hkid.hi hkid.nots)
 have hw : qk.f k x.f0 (i : Int) = some (zu x.f0 i) :=
  at_rounds (g := fun k => qk.f k x.f0 (i : Int)) (fun k => qk.mono _ _ k) hk (wants_ref x.f0 i h1 h2 (by have := hK.few; omega))
 have hs : showS.f k ks[i].f0.f0 ks[i].f0.f1 ks[i].f0.f2 ks[i].f0.f3 ks[i].f1 = some (str (shw ks[i]).1) := hkid.shown
 have hr : qA ks (i : Int) = ks[i] := by
  have : qA ks (i : Int) = kid ks i := rfl;rw [this, vd ks i hi]
 have hz := tot_at ks i hi;have hq := hK.sized;show qp.f k x.f0 x.f1 x.f2 x.f3 ks (i : Int) = _;unfold qp.f;rw [if_pos (by omega), if_pos (by omega), hr, hs, Option.bind_some, hl, Option.bind_some, hw, Option.bind_some];unfold opn opd;rw [vd ks i hi, xS ks i hi]
 by_cases hc : levI ks[i] < zu x.f0 i
 · have e1 : (⟨#[40]⟩ : ByteArray) = str [40] := rfl
   have e2 : (⟨#[41]⟩ : ByteArray) = str [41] := rfl;rw [if_pos hc, if_pos hc, e1, e2];simp only [zm, zi, List.length_append, List.length_cons, List.length_nil];rw [if_pos (by omega), if_pos (by omega)]
   rfl
 · rw [if_neg hc, if_neg hc]
theorem listed_next (k a i : Nat) (acc t : List UInt8) (x : Nd) (ks : List Tr) (hi : i < ks.length) (ha : a < i) (hk : ks.length ≤ 100) (hb : acc.length + t.length ≤ 1000000000000000) (h : qp.f k x.f0 x.f1 x.f2 x.f3 ks (i : Int) = some (str t)) :
 qC.l0 (k + 1) (a : Int) (str acc) (i : Int) x.f0 x.f1 x.f2 x.f3 ks = qC.l0 k (a : Int) (str (acc ++ [44, 32] ++ t)) ((i + 1 : Nat) : Int) x.f0 x.f1 x.f2 x.f3 ks := by
 have e2 : (⟨#[44, 32]⟩ : ByteArray) = str [44, 32] := rfl
 have ew : wrap64 ((i : Int) + 1) = ((i + 1 : Nat) : Int) := by rw [zW (by omega) (by omega)]; omega
 rw [qC.l0, if_pos (by omega), if_pos (by omega), if_pos (by rw [zi]; omega), h, Option.bind_some, e2, ew, zm, zm];simp only [zi, List.length_append, List.length_cons, List.length_nil];rw [if_pos (by omega)]
theorem listed_first (k a : Nat) (acc t : List UInt8) (x : Nd) (ks : List Tr) (hi : a < ks.length) (hk : ks.length ≤ 100) (hb : acc.length + t.length ≤ 1000000000000000) (h : qp.f k x.f0 x.f1 x.f2 x.f3 ks (a : Int) = some (str t)) :
 qC.l0 (k + 1) (a : Int) (str acc) (a : Int) x.f0 x.f1 x.f2 x.f3 ks = qC.l0 k (a : Int) (str (acc ++ t)) ((a + 1 : Nat) : Int) x.f0 x.f1 x.f2 x.f3 ks := by
 have ew : wrap64 ((a : Int) + 1) = ((a + 1 : Nat) : Int) := by rw [zW (by omega) (by omega)]; omega
 rw [qC.l0, if_pos (by omega), if_neg (by omega), h, Option.bind_some, ew, zm];simp only [zi];rw [if_pos (by omega)]
theorem listed_ref (x : Nd) (ks : List Tr) (hK : xF ks) (h1 : 1 ≤ x.f0) (h2 : x.f0 ≤ 29) (a : Nat) (ha : ∀ i, a ≤ i → zu x.f0 i = 1) :
 Ev (fun k => qC.f k x.f0 x.f1 x.f2 x.f3 ks (a : Int)) (str (lstL ((ks.zip (shws ks)).drop a))) := by
 have hk := hK.few;have hq := hK.sized
 have hlen : ((its ks).drop a).length = ks.length - a := by rw [List.length_drop, vi]
 have hz : (lstL ((its ks).drop a)).length ≤ tot (shws ks) := Nat.le_trans (lst_tot _) (Nat.le_trans (totz_drop _ _) (xY _ _))
 have hloop : ∀ (n j : Nat), ks.length - (a + j) < n → a + j ≤ ks.length ∨ j = 0 → Ev (fun k => qC.l0 k (a : Int) (str (lstL (((its ks).drop a).take j))) ((a + j : Nat) : Int) x.f0 x.f1 x.f2 x.f3 ks) (str (lstL ((its ks).drop a))) := by
  intro n
  induction n with
  | zero => intro j h; omega
  | succ n ih =>
   intro j hn hj
   by_cases hlt : a + j < ks.length
   · have e := ih (j + 1) (by omega) (.inl (by omega))
     have hd : j < ((its ks).drop a).length := by omega
     have e1 := lst_one ((its ks).drop a) j hd;have aa := lst_len ((its ks).drop a) (j + 1)
     have hg : ((its ks).drop a)[j] = (ks[a + j], shw ks[a + j]) := by rw [List.getElem_drop, its_at ks (a + j) hlt]
     obtain ⟨K, ho⟩ := zA x ks hK h1 h2 (a + j) hlt
     have ae : opn x ks (shws ks) (a + j) = opd 1 ks[a + j] (shw ks[a + j]).1 := by
      unfold opn;rw [ha (a + j) (by omega), vd ks _ hlt, xS ks _ hlt]
     rw [hg] at e1
     dsimp only at e1
     rw [ae] at ho;rw [e1] at aa e;refine ev_step ⟨K, fun k ab => ?_⟩ e
     by_cases h0 : 0 < j
     · rw [if_pos h0] at aa ⊢
       simp only [List.length_append, List.length_cons, List.length_nil] at aa
       exact listed_next k a (a + j) _ _ x ks hlt (by omega) hk (by omega) (ho k ab)
     · obtain rfl : j = 0 := by omega
       rw [if_neg h0] at aa ⊢;simp only [List.length_append, List.length_nil] at aa;rw [List.append_nil]
       exact listed_first k a _ _ x ks hlt hk (by omega) (ho k ab)
   · have ht : ((its ks).drop a).take j = (its ks).drop a := List.take_of_length_le (by omega)
     rw [ht];refine Ev.step (f := fun _ => some (str (lstL ((its ks).drop a)))) (fun k => ?_) (Ev.now _);show qC.l0 (k + 1) (a : Int) _ ((a + j : Nat) : Int) x.f0 x.f1 x.f2 x.f3 ks = _;rw [qC.l0, if_neg (by omega)]
 exact hloop (ks.length + 1) 0 (by omega) (.inr rfl)
theorem cases_next (k i : Nat) (acc t1 t2 : List UInt8) (x : Nd) (ks : List Tr) (hi : i + 1 < ks.length) (hk : ks.length ≤ 100) (hb : acc.length + t1.length + t2.length ≤ 1000000000000000)
 (o1 : qp.f k x.f0 x.f1 x.f2 x.f3 ks (i : Int) = some (str t1)) (o2 : qp.f k x.f0 x.f1 x.f2 x.f3 ks ((i + 1 : Nat) : Int) = some (str t2)) :
 qE.l0 (k + 1) (str acc) (i : Int) x.f0 x.f1 x.f2 x.f3 ks = qE.l0 k (str (acc ++ [32, 87, 72, 69, 78, 32] ++ t1 ++ [32, 84, 72, 69, 78, 32] ++ t2)) ((i + 1 + 1 : Nat) : Int) x.f0 x.f1 x.f2 x.f3 ks := by
 have l1 : (⟨#[32, 87, 72, 69, 78, 32]⟩ : ByteArray) = str [32, 87, 72, 69, 78, 32] := rfl;have l2 : (⟨#[32, 84, 72, 69, 78, 32]⟩ : ByteArray) = str [32, 84, 72, 69, 78, 32] := rfl
 have ac : wrap64 ((i : Int) + 1) = ((i + 1 : Nat) : Int) := by rw [zW (by omega) (by omega)]; omega
 have ae : wrap64 ((i : Int) + 2) = ((i + 1 + 1 : Nat) : Int) := by rw [zW (by omega) (by omega)]; omega
 rw [qE.l0, ac, if_pos (by omega), if_pos (by rw [zi]; omega), o1, Option.bind_some, l1, l2, zm, zm, zm];simp only [zi, List.length_append, List.length_cons, List.length_nil];rw [if_pos (by omega), if_pos (by omega), o2, Option.bind_some, zm];simp only [zi];rw [if_pos (by omega), ae]
theorem cases_last (k i : Nat) (acc t : List UInt8) (x : Nd) (ks : List Tr) (hi : ks.length ≤ i + 1) (af : i ≤ 100) (h0 : 1 ≤ ks.length) (hk : ks.length ≤ 100) (hb : acc.length + t.length ≤ 1000000000000000)
 (o1 : qp.f k x.f0 x.f1 x.f2 x.f3 ks ((ks.length - 1 : Nat) : Int) = some (str t)) :
 qE.l0 (k + 1) (str acc) (i : Int) x.f0 x.f1 x.f2 x.f3 ks = some (str (acc ++ [32, 69, 76, 83, 69, 32] ++ t ++ [32, 69, 78, 68])) := by
 have l1 : (⟨#[32, 69, 76, 83, 69, 32]⟩ : ByteArray) = str [32, 69, 76, 83, 69, 32] := rfl;have l2 : (⟨#[32, 69, 78, 68]⟩ : ByteArray) = str [32, 69, 78, 68] := rfl
 have aa : wrap64 ((i : Int) + 1) = ((i + 1 : Nat) : Int) := by rw [zW (by omega) (by omega)]; omega
 have ab : wrap64 ((ks.length : Int) - 1) = ((ks.length - 1 : Nat) : Int) := by rw [zW (by omega) (by omega)]; omega
 rw [qE.l0, aa, if_neg (by omega), if_pos (by rw [zi]; omega), ab, o1, Option.bind_some, l1, l2, zm, zm];simp only [zi, List.length_append, List.length_cons, List.length_nil];rw [if_pos (by omega), if_pos (by omega), zm]
theorem cases_ref (x : Nd) (ks : List Tr) (hK : xF ks) (hx : x.f0 = 28) (h3 : 3 ≤ ks.length) (ho : ks.length % 2 = 1) :
 Ev (fun k => qE.f k x.f0 x.f1 x.f2 x.f3 ks) (str ([67, 65, 83, 69] ++ whenL ((ks.zip (shws ks)).take (ks.length - 1)) ++ [32, 69, 76, 83, 69, 32] ++ opn x ks (shws ks) (ks.length - 1) ++ [32, 69, 78, 68])) := by
 have hk := hK.few;have hq := hK.sized
 have h1 : 1 ≤ x.f0 := by omega
 have h2 : x.f0 ≤ 29 := by omega
 have hw : ∀ i, zu x.f0 i = 1 := by intro i; rw [hx]; rfl
 have hop : ∀ i (hi : i < ks.length), opn x ks (shws ks) i = opd 1 ks[i] (shw ks[i]).1 := by
  intro i hi;unfold opn;rw [hw, vd ks i hi, xS ks i hi]
 have hz : ∀ m, (whL 0 ((its ks).take m)).length ≤ tot (shws ks) := by
  intro m;have a := whL_len (its ks) (min m (its ks).length) (its ks).length (Nat.min_le_right _ _);rw [List.take_length] at a
  have b : (its ks).take (min m (its ks).length) = (its ks).take m := by
   by_cases h : m ≤ (its ks).length
   · rw [Nat.min_eq_left h]
   · rw [Nat.min_eq_right (by omega), List.take_length, List.take_of_length_le (by omega)]
  rw [b] at a
  exact Nat.le_trans a (Nat.le_trans (whL_tot _ _) (xY _ _))
 rw [whenL_eq]
 have hloop : ∀ (n j : Nat), ks.length - 2 * j < n → 2 * j + 1 ≤ ks.length → Ev (fun k => qE.l0 k (str ([67, 65, 83, 69] ++ whL 0 ((its ks).take (2 * j)))) ((2 * j : Nat) : Int) x.f0 x.f1 x.f2 x.f3 ks) (str ([67, 65, 83, 69] ++ whL 0 ((its ks).take (ks.length - 1)) ++ [32, 69, 76, 83, 69, 32] ++ opn x ks (shws ks) (ks.length - 1) ++ [32, 69, 78, 68])) := by
  intro n
  induction n with
  | zero => intro j h; omega
  | succ n ih =>
   intro j hn hj
   by_cases hlt : 2 * j + 1 < ks.length
   · have e := ih (j + 1) (by omega) (by omega)
     have a1 := whL_one (its ks) (2 * j) (by rw [vi]; omega);have a2 := whL_one (its ks) (2 * j + 1) (by rw [vi]; omega);have b2 := hz (2 * j + 1 + 1);rw [its_at ks (2 * j) (by omega), if_pos (by omega)] at a1;rw [its_at ks (2 * j + 1) (by omega), if_neg (by omega)] at a2
     dsimp only at a1 a2
     obtain ⟨K1, o1⟩ := zA x ks hK h1 h2 (2 * j) (by omega);obtain ⟨K2, o2⟩ := zA x ks hK h1 h2 (2 * j + 1) (by omega);rw [hop _ (by omega)] at o1 o2
     have e0 : 2 * (j + 1) = 2 * j + 1 + 1 := by omega
     rw [e0] at e;refine ev_step ⟨max K1 K2, fun k ae => ?_⟩ e;have s := cases_next k (2 * j) ([67, 65, 83, 69] ++ whL 0 ((its ks).take (2 * j))) _ _ x ks hlt hk (by rw [a2, a1] at b2; simp only [List.length_append, List.length_cons, List.length_nil] at b2 ⊢; omega) (o1 k (by omega)) (o2 k (by omega));rw [s, a2, a1];simp only [List.append_assoc]
   · have aj : 2 * j = ks.length - 1 := by omega
     obtain ⟨K1, o1⟩ := zA x ks hK h1 h2 (ks.length - 1) (by omega);have hl := opn_len (x := x) (ks := ks) (i := ks.length - 1) (by omega);have b2 := hz (2 * j);refine ev_step (f := fun _ => some (str ([67, 65, 83, 69] ++ whL 0 ((its ks).take (ks.length - 1)) ++ [32, 69, 76, 83, 69, 32] ++ opn x ks (shws ks) (ks.length - 1) ++ [32, 69, 78, 68]))) ⟨K1, fun k ae => ?_⟩ (Ev.now _);rw [cases_last k (2 * j) ([67, 65, 83, 69] ++ whL 0 ((its ks).take (2 * j))) _ x ks (by omega) (by omega) (by omega) hk (by simp only [List.length_append, List.length_cons, List.length_nil]; omega) (o1 k ae), aj]
 exact hloop (ks.length + 1) 0 (by omega) (by omega)
end
def gdX (x : Nd) (n : Nat) : Bool := okNdB x && xa x && qY x.f0 x.f3 n
theorem vD (x : Nd) (n : Nat) : gdX x n = true ↔ okNd x ∧ xa x = true ∧ qY x.f0 x.f3 n = true := by
 unfold gdX;simp only [Bool.and_eq_true, okNdB_iff, and_assoc]
theorem holds_num (x : Nd) (h : xa x = true) : 0 ≤ x.f2 := by
 have h1 := name_ref x;rw [h] at h1
 by_cases h2 : x.f2 < 0
 · unfold qz.f at h1
   rw [if_pos h2, qz.j0, if_pos rfl] at h1
   cases h1
 · omega
theorem takes_le {op : Int} {s : ByteArray} {n : Nat} (h : qY op s n = true) : op ≤ 29 := by
 by_cases h0 : op ≤ 29
 · exact h0
 · unfold qY at h
   rw [if_neg (by omega), if_neg (by omega), if_neg (by omega), if_neg (by omega), if_neg (by omega), if_neg (by omega), if_neg (by omega)] at h
   cases h
theorem span_word {s : ByteArray} {n : Nat} (h : vA s n = true) : n ≤ 16 ∧ ∃ c r, s.data.toList = c :: r ∧ c ≠ 45 := by
 unfold vA at h;simp only [Bool.and_eq_true, decide_eq_true_eq] at h;obtain ⟨⟨h1, h2⟩, h3⟩ := h;unfold xr at h1 h3;rw [← ByteArray.toList_eq]
 by_cases c0 : s.toList = ([97, 98, 115] : List UInt8)
 · rw [if_pos c0] at h3; exact ⟨by dsimp only at h3; omega, _, _, c0, by decide⟩
 rw [if_neg c0] at h1 h3
 by_cases c1 : s.toList = ([108, 101, 110, 103, 116, 104] : List UInt8)
 · rw [if_pos c1] at h3; exact ⟨by dsimp only at h3; omega, _, _, c1, by decide⟩
 rw [if_neg c1] at h1 h3
 by_cases c2 : s.toList = ([108, 111, 119, 101, 114] : List UInt8)
 · rw [if_pos c2] at h3; exact ⟨by dsimp only at h3; omega, _, _, c2, by decide⟩
 rw [if_neg c2] at h1 h3
 by_cases c3 : s.toList = ([117, 112, 112, 101, 114] : List UInt8)
 · rw [if_pos c3] at h3; exact ⟨by dsimp only at h3; omega, _, _, c3, by decide⟩
 rw [if_neg c3] at h1 h3
 by_cases c4 : s.toList = ([110, 117, 108, 108, 105, 102] : List UInt8)
 · rw [if_pos c4] at h3; exact ⟨by dsimp only at h3; omega, _, _, c4, by decide⟩
 rw [if_neg c4] at h1 h3
 by_cases c5 : s.toList = ([115, 117, 98, 115, 116, 114] : List UInt8)
 · rw [if_pos c5] at h3; exact ⟨by dsimp only at h3; omega, _, _, c5, by decide⟩
 rw [if_neg c5] at h1 h3
 by_cases c6 : s.toList = ([99, 111, 97, 108, 101, 115, 99, 101] : List UInt8)
 · rw [if_pos c6] at h3; exact ⟨by dsimp only at h3; omega, _, _, c6, by decide⟩
 rw [if_neg c6] at h1 h3
 by_cases c7 : s.toList = ([108, 101, 97, 115, 116] : List UInt8)
 · rw [if_pos c7] at h3; exact ⟨by dsimp only at h3; omega, _, _, c7, by decide⟩
 rw [if_neg c7] at h1 h3
 by_cases c8 : s.toList = ([103, 114, 101, 97, 116, 101, 115, 116] : List UInt8)
 · rw [if_pos c8] at h3; exact ⟨by dsimp only at h3; omega, _, _, c8, by decide⟩
 rw [if_neg c8] at h1
 cases h1
theorem xQ {op : Int} {s : ByteArray} {n : Nat} (h : qY op s n = true) : n ≤ 33 ∧ (op = 7 ∨ op = 8 ∨ op = 9 ∨ op = 10 → n = 1) ∧ (11 ≤ op ∧ op ≤ 25 → n = 2) ∧ (op = 26 → n = 3) ∧ (op = 27 → 2 ≤ n) ∧ (op = 28 → 3 ≤ n ∧ n % 2 = 1) := by
 unfold qY at h
 by_cases a1 : 1 ≤ op ∧ op ≤ 6
 · rw [if_pos a1] at h; simp only [decide_eq_true_eq] at h; omega
 rw [if_neg a1] at h
 by_cases a2 : 7 ≤ op ∧ op ≤ 10
 · rw [if_pos a2] at h; simp only [decide_eq_true_eq] at h; omega
 rw [if_neg a2] at h
 by_cases a3 : 11 ≤ op ∧ op ≤ 25
 · rw [if_pos a3] at h; simp only [decide_eq_true_eq] at h; omega
 rw [if_neg a3] at h
 by_cases a4 : op = 26
 · rw [if_pos a4] at h; simp only [decide_eq_true_eq] at h; omega
 rw [if_neg a4] at h
 by_cases a5 : op = 27
 · rw [if_pos a5] at h; simp only [decide_eq_true_eq] at h; omega
 rw [if_neg a5] at h
 by_cases a6 : op = 28
 · rw [if_pos a6] at h; simp only [decide_eq_true_eq] at h; omega
 rw [if_neg a6] at h
 by_cases a7 : op = 29
 · rw [if_pos a7] at h; have := (span_word h).1; omega
 rw [if_neg a7] at h
 cases h
theorem dec_head (u : Nat) : ∃ c r, Lib.decDigits u = c :: r ∧ c ≠ 45 := by
 induction u using Nat.strongRecOn with
 | _ u ih =>
 by_cases h : u < 10
 · refine ⟨UInt8.ofNat (48 + u), [], Lib.decDigits_one h, fun h2 => ?_⟩
   have := congrArg UInt8.toNat h2;rw [UInt8.toNat_ofNat'] at this;have e : (45 : UInt8).toNat = 45 := rfl
   omega
 · obtain ⟨c, r, h1, h2⟩ := ih (u / 10) (by omega)
   exact ⟨c, r ++ Lib.decDigits (u % 10), by rw [dec_last u h, h1]; rfl, h2⟩
theorem dash_head (t : Tr) (hg : gdX t.f0 t.f1.length = true) : ∃ c r, opd 8 t (shw t).1 = c :: r ∧ (c = 45 ↔ t.f0.f0 = 7) := by
 obtain ⟨⟨op, f1, f2, f3⟩, ks⟩ := t;obtain ⟨hok, hh, ht⟩ := (vD _ _).1 hg;have hp := vJ ht;have hl := takes_le ht;have hnum := holds_num _ hh;have hnam := vQ _ hh
 dsimp only at hp hl ht hnum hnam ⊢
 unfold opd
 by_cases hc : levI ⟨⟨op, f1, f2, f3⟩, ks⟩ < 8
 · rw [if_pos hc]
   refine ⟨40, _, rfl, ⟨fun h => absurd h (by decide), fun h => ?_⟩⟩;unfold levI at hc
   dsimp only at hc
   rw [if_neg (by omega), if_pos h] at hc
   omega
 · rw [if_neg hc]
   show ∃ c r, zb [] ⟨op, f1, f2, f3⟩ ks (shws ks) = c :: r ∧ _
   by_cases h6 : op ≤ 6
   · unfold zb
     dsimp only
     rw [if_pos h6]
     have hn : ¬ op = 7 := by omega
     have hcs : op = 1 ∨ op = 2 ∨ op = 3 ∨ op = 4 ∨ op = 5 ∨ op = 6 := by omega
     rcases hcs with rfl | rfl | rfl | rfl | rfl | rfl
     · obtain ⟨u, rfl⟩ : ∃ u : Nat, f2 = (u : Int) := ⟨f2.toNat, by omega⟩
       obtain ⟨c, r, h1, h2⟩ := dec_head u;refine ⟨c, r, ?_, ⟨fun h => absurd h h2, fun h => absurd h hn⟩⟩;show Lib.itoa (u : Int) = _;rw [Lib.itoa_nonneg, h1]
     · exact ⟨39, _, rfl, ⟨fun h => absurd h (by decide), fun h => absurd h hn⟩⟩
     · exact ⟨78, _, rfl, ⟨fun h => absurd h (by decide), fun h => absurd h hn⟩⟩
     · exact ⟨84, _, rfl, ⟨fun h => absurd h (by decide), fun h => absurd h hn⟩⟩
     · exact ⟨70, _, rfl, ⟨fun h => absurd h (by decide), fun h => absurd h hn⟩⟩
     · show ∃ c r, vG f3.data.toList = c :: r ∧ _
       by_cases hq : kwB (upL f3.data.toList) = true ∨ f3.data.toList.all okB = false ∨ digB (f3.data.toList.headD 0) = true
       · rw [xf _ hq]
         exact ⟨34, _, rfl, ⟨fun h => absurd h (by decide), fun h => absurd h hn⟩⟩
       · rw [nameL_bare _ hq]
         have hpos := hnam rfl;have ab : f3.data.toList.length = f3.size := xV f3
         cases ac : f3.data.toList with
         | nil => rw [ac] at ab; simp at ab; omega
         | cons c r =>
          refine ⟨c, r, rfl, ⟨fun h => ?_, fun h => absurd h hn⟩⟩
          exfalso
          apply hq
          refine .inr (.inl ?_);rw [ac, h]
          rfl
   · by_cases h7 : op = 7
     · subst h7
       exact ⟨45, _, rfl, ⟨fun _ => rfl, fun _ => rfl⟩⟩
     · have ah : op = 28 ∨ op = 29 := by
        have hv : ∀ o : Int, lvlI o ≤ 7 := by
         intro o;unfold lvlI
         repeat' split
         all_goals omega
        have := hv op;unfold levI at hc
        dsimp only at hc
        rw [if_neg h6, if_neg h7] at hc
        by_cases h8 : op = 8
        · rw [if_pos h8] at hc; exfalso; revert hc; split <;> omega
        rw [if_neg h8] at hc
        by_cases h9 : op = 9 ∨ op = 10
        · rw [if_pos h9] at hc; omega
        rw [if_neg h9] at hc
        by_cases ae : op ≤ 24
        · rw [if_pos ae] at hc; omega
        rw [if_neg ae] at hc
        by_cases ak : op ≤ 27
        · rw [if_pos ak] at hc; omega
        omega
       rcases ah with rfl | rfl
       · exact ⟨67, _, rfl, ⟨fun h => absurd h (by decide), fun h => absurd h h7⟩⟩
       · have hs : vA f3 ks.length = true := ht
         obtain ⟨_, c, r, h1, h2⟩ := span_word hs;refine ⟨c, r ++ [40] ++ lstL (ks.zip (shws ks)) ++ [41], ?_, ⟨fun h => absurd h h2, fun h => absurd h h7⟩⟩;show f3.data.toList ++ [40] ++ lstL (ks.zip (shws ks)) ++ [41] = _;rw [h1]
         rfl
section
set_option linter.unusedSectionVars false
variable [Inhabited vT]
theorem tested_ref (x : Nd) (ks : List Tr) (hK : xF ks) (hm : 25 ≤ x.f0 ∧ x.f0 ≤ 27) (ht : qY x.f0 x.f3 ks.length = true) (nt aa : List UInt8) (hnt : 32 :: nt = aa ++ [32]) (hl : nt.length ≤ 4) :
 Ev (fun k => qM.f k x.f0 x.f1 x.f2 x.f3 ks (str nt)) (str (zb aa x ks (shws ks))) := by
 have hk := hK.few;have hq := hK.sized;have hnum := xQ ht;have e1 : (⟨#[32]⟩ : ByteArray) = str [32] := rfl;have e2 : (⟨#[66, 69, 84, 87, 69, 69, 78, 32]⟩ : ByteArray) = str [66, 69, 84, 87, 69, 69, 78, 32] := rfl;have e3 : (⟨#[32, 65, 78, 68, 32]⟩ : ByteArray) = str [32, 65, 78, 68, 32] := rfl;have e4 : (⟨#[73, 78, 32, 40]⟩ : ByteArray) = str [73, 78, 32, 40] := rfl;have e5 : (⟨#[41]⟩ : ByteArray) = str [41] := rfl;have e6 : (⟨#[76, 73, 75, 69, 32]⟩ : ByteArray) = str [76, 73, 75, 69, 32] := rfl
 have ab : 1 ≤ x.f0 := by omega
 have ac : x.f0 ≤ 29 := by omega
 have hsw : ∀ (a r : List UInt8), a ++ [32] ++ nt ++ r = a ++ aa ++ 32 :: r := by
  intro a r
  have : a ++ [32] ++ nt ++ r = a ++ (32 :: nt) ++ r := by simp
  rw [this, hnt]
  simp
 have hlen : ∀ i, i < ks.length → (opn x ks (shws ks) i).length ≤ 140737488355328 := fun i hi => by
  have := opn_len (x := x) (ks := ks) (i := i) hi
  omega
 by_cases ae : x.f0 = 26
 · have h3 := hnum.2.2.2.1 ae
   obtain ⟨K0, o0⟩ := zA x ks hK ab ac 0 (by omega);obtain ⟨K1, o1⟩ := zA x ks hK ab ac 1 (by omega);obtain ⟨K2, o2⟩ := zA x ks hK ab ac 2 (by omega);have l0 := hlen 0 (by omega);have l1 := hlen 1 (by omega);have l2 := hlen 2 (by omega);refine ⟨max K0 (max K1 K2), fun k am => ?_⟩;have p0 : qp.f k x.f0 x.f1 x.f2 x.f3 ks 0 = some (str (opn x ks (shws ks) 0)) := o0 k (by omega);have p1 : qp.f k x.f0 x.f1 x.f2 x.f3 ks 1 = some (str (opn x ks (shws ks) 1)) := o1 k (by omega);have p2 : qp.f k x.f0 x.f1 x.f2 x.f3 ks 2 = some (str (opn x ks (shws ks) 2)) := o2 k (by omega);show qM.f k x.f0 x.f1 x.f2 x.f3 ks (str nt) = _
   have hN : zb aa x ks (shws ks) = opn x ks (shws ks) 0 ++ aa ++ [32, 66, 69, 84, 87, 69, 69, 78, 32] ++ opn x ks (shws ks) 1 ++ [32, 65, 78, 68, 32] ++ opn x ks (shws ks) 2 := by
    unfold zb;rw [if_neg (by omega), if_neg (by omega), if_neg (by omega), if_neg (by omega), if_neg (by omega), if_neg (by omega), if_neg (by omega), if_pos ae]
   rw [hN];have hs := hsw (opn x ks (shws ks) 0) ([66, 69, 84, 87, 69, 69, 78, 32] ++ opn x ks (shws ks) 1 ++ [32, 65, 78, 68, 32] ++ opn x ks (shws ks) 2);generalize opn x ks (shws ks) 0 = t0 at *;generalize opn x ks (shws ks) 1 = t1 at *;generalize opn x ks (shws ks) 2 = t2 at *;unfold qM.f;rw [p0, Option.bind_some, if_pos ae, e1, e2, e3];simp only [zm, zi, List.length_append, List.length_cons, List.length_nil];rw [if_pos (by omega), if_pos (by omega), if_pos (by omega), p1, Option.bind_some];simp only [zm, zi, List.length_append, List.length_cons, List.length_nil];rw [if_pos (by omega), if_pos (by omega), p2, Option.bind_some];simp only [zm, zi, List.length_append, List.length_cons, List.length_nil];rw [if_pos (by omega)]
   apply congrArg some
   apply congrArg str
   simpa using hs
 · by_cases af : x.f0 = 27
   · have h3 := hnum.2.2.2.2.1 af
     obtain ⟨K0, o0⟩ := zA x ks hK ab ac 0 (by omega);obtain ⟨K1, o1⟩ := listed_ref x ks hK ab ac 1 (fun i hi => by unfold zu; rw [if_neg (by omega), if_neg (by omega), if_neg (by omega), if_pos af, if_pos (by omega)]);have l0 := hlen 0 (by omega);have l1 : (lstL ((ks.zip (shws ks)).drop 1)).length ≤ tot (shws ks) := Nat.le_trans (lst_tot _) (Nat.le_trans (totz_drop _ _) (xY _ _));refine ⟨max K0 K1, fun k am => ?_⟩;have p0 : qp.f k x.f0 x.f1 x.f2 x.f3 ks 0 = some (str (opn x ks (shws ks) 0)) := o0 k (by omega);have p1 : qC.f k x.f0 x.f1 x.f2 x.f3 ks 1 = some (str (lstL ((ks.zip (shws ks)).drop 1))) := o1 k (by omega);show qM.f k x.f0 x.f1 x.f2 x.f3 ks (str nt) = _
     have hN : zb aa x ks (shws ks) = opn x ks (shws ks) 0 ++ aa ++ [32, 73, 78, 32, 40] ++ lstL ((ks.zip (shws ks)).drop 1) ++ [41] := by
      unfold zb;rw [if_neg (by omega), if_neg (by omega), if_neg (by omega), if_neg (by omega), if_neg (by omega), if_neg (by omega), if_neg (by omega), if_neg (by omega), if_pos af]
     rw [hN];have hs := hsw (opn x ks (shws ks) 0) ([73, 78, 32, 40] ++ lstL ((ks.zip (shws ks)).drop 1) ++ [41]);generalize opn x ks (shws ks) 0 = t0 at *;generalize lstL ((ks.zip (shws ks)).drop 1) = t1 at *;unfold qM.f;rw [p0, Option.bind_some, if_neg ae, if_pos af, e1, e4, e5];simp only [zm, zi, List.length_append, List.length_cons, List.length_nil];rw [if_pos (by omega), if_pos (by omega), if_pos (by omega), p1, Option.bind_some];simp only [zm, zi, List.length_append, List.length_cons, List.length_nil];rw [if_pos (by omega), if_pos (by omega)]
     apply congrArg some
     apply congrArg str
     simpa using hs
   · have aw : x.f0 = 25 := by omega
     have h3 := hnum.2.2.1 (by omega);obtain ⟨K0, o0⟩ := zA x ks hK ab ac 0 (by omega);obtain ⟨K1, o1⟩ := zA x ks hK ab ac 1 (by omega);have l0 := hlen 0 (by omega);have l1 := hlen 1 (by omega);refine ⟨max K0 K1, fun k am => ?_⟩;have p0 : qp.f k x.f0 x.f1 x.f2 x.f3 ks 0 = some (str (opn x ks (shws ks) 0)) := o0 k (by omega);have p1 : qp.f k x.f0 x.f1 x.f2 x.f3 ks 1 = some (str (opn x ks (shws ks) 1)) := o1 k (by omega);show qM.f k x.f0 x.f1 x.f2 x.f3 ks (str nt) = _
     have hN : zb aa x ks (shws ks) = opn x ks (shws ks) 0 ++ aa ++ [32, 76, 73, 75, 69, 32] ++ opn x ks (shws ks) 1 := by
      unfold zb;rw [if_neg (by omega), if_neg (by omega), if_neg (by omega), if_neg (by omega), if_neg (by omega), if_neg (by omega), if_pos aw]
     rw [hN];have hs := hsw (opn x ks (shws ks) 0) ([76, 73, 75, 69, 32] ++ opn x ks (shws ks) 1);generalize opn x ks (shws ks) 0 = t0 at *;generalize opn x ks (shws ks) 1 = t1 at *;unfold qM.f;rw [p0, Option.bind_some, if_neg ae, if_neg af, e1, e6];simp only [zm, zi, List.length_append, List.length_cons, List.length_nil];rw [if_pos (by omega), if_pos (by omega), if_pos (by omega), p1, Option.bind_some];simp only [zm, zi, List.length_append, List.length_cons, List.length_nil];rw [if_pos (by omega)]
     apply congrArg some
     apply congrArg str
     simpa using hs
end
theorem opText_ref (op : Int) (h1 : 11 ≤ op) (h2 : op ≤ 24) : xg.f op = some (str (vf op)) := by
 have hc : op = 11 ∨ op = 12 ∨ op = 13 ∨ op = 14 ∨ op = 15 ∨ op = 16 ∨ op = 17 ∨ op = 18 ∨ op = 19 ∨ op = 20 ∨ op = 21 ∨ op = 22 ∨ op = 23 ∨ op = 24 := by omega
 rcases hc with rfl | rfl | rfl | rfl | rfl | rfl | rfl | rfl | rfl | rfl | rfl | rfl | rfl | rfl <;> rfl
abbrev TO (x : Nd) (ks : List Tr) (A : Option Addr) (c : Nat) : Obj := .cells #[.int .i64 x.f0, .int .i64 x.f1, .int .i64 x.f2, .string x.f3, .slice A ks.length c] 130
abbrev NO (x : Nd) : Obj := .cells #[.int .i64 x.f0, .int .i64 x.f1, .int .i64 x.f2, .string x.f3] 86
theorem xn (w : World) (o1 o2 : Obj) : ((w.alloc o1).alloc o2).heap[w.heap.size]? = some o1 ∧ ((w.alloc o1).alloc o2).heap[w.heap.size + 1]? = some o2 ∧ Below w.heap.size w ((w.alloc o1).alloc o2) := by
 have h2 := qL (w.alloc o1) o2
 have e : (w.alloc o1).heap.size = w.heap.size + 1 := by show (w.heap.push o1).size = _; simp
 rw [e] at h2
 exact ⟨((q8 (Below.refl _ (w.alloc o1)) o2).block w.heap.size (by rw [e]; omega)).trans (qL w o1), h2, q8 (q8 (Below.refl _ _) _) _⟩
abbrev vL (f : Nat) (args : Array Value) (w : World) (s : List UInt8) : Prop := Calls Tryz.prog f args w fun e w' => e = .returned (.string (str s)) ∧ Below w.heap.size w w'
theorem zv {w : World} {g : Nat} {o : Obj} (h : w.heap[g]? = some o) : g < w.heap.size := (Array.getElem?_eq_some_iff.1 h).1
section
set_option linter.unusedSectionVars false
variable [Inhabited vT]
set_option maxHeartbeats 4000000 in
set_option maxRecDepth 100000 in
theorem show_leaf (op f1 f2 : Int) (f3 : ByteArray) (ks : List Tr) (hop : 1 ≤ op ∧ op ≤ 6) (hok : okNd ⟨op, f1, f2, f3⟩) (hh : xa ⟨op, f1, f2, f3⟩ = true) (A : Option Addr) (c : Nat) (w : World) :
 vL 72 #[.agg #[.int .i64 op, .int .i64 f1, .int .i64 f2, .string f3, .slice A ks.length c]] w (leafL op f2 f3.data.toList) := by
 obtain ⟨_, _, HB⟩ := xn w (TO ⟨op, f1, f2, f3⟩ ks A c) (NO ⟨op, f1, f2, f3⟩);have HBB := Aside0.mk HB
 have HD : Aside0 (∀ W, vL 63 #[.int .i64 f2] W (Lib.itoa f2)) := ⟨fun W => by
  obtain ⟨k, hk⟩ := (digits_ref f2 (holds_num _ hh) hok.2.2.2.1).rounds
  exact (qN.calls k f2 _ W hk).mono (by rintro e w' ⟨rfl, h⟩; exact ⟨rfl, by first | exact h | (obtain ⟨nd, rfl⟩ := h; exact q9 (Below.refl _ _) nd)⟩)⟩
 have HT : Aside0 (∀ W, vL 113 #[.string f3, .int .u8 39] W (quoL 39 f3.data.toList)) := ⟨fun W => by
  obtain ⟨k, hk⟩ := (twice_ref f3 39 hok.2.2.2.2).rounds
  exact (qG.calls k f3 39 _ W hk).mono (by rintro e w' ⟨rfl, h⟩; exact ⟨rfl, h⟩)⟩
 have HN : Aside0 (op = 6 → ∀ W, vL 93 #[.string f3] W (vG f3.data.toList)) := ⟨fun h6 W => by
  obtain ⟨k, hk⟩ := (name_print f3 (vQ _ hh h6) hok.2.2.2.2).rounds
  exact (qu.calls k f3 _ W hk).mono (by rintro e w' ⟨rfl, h⟩; exact ⟨rfl, h⟩)⟩
 clear HB hh hok
 have hcase : op = 1 ∨ op = 2 ∨ op = 3 ∨ op = 4 ∨ op = 5 ∨ op = 6 := by omega
 clear hop
 rcases hcase with rfl | rfl | rfl | rfl | rfl | rfl
 all_goals (
  go_enter Tryz.func72, Tryz.ntmps72
  go_wp2_with (first
   | (go_at_call 63; go_must (refine (HD.out _).mono ?_; rintro e w1 ⟨rfl, hb⟩; have aa := Aside0.mk (qy HBB.out HBB.out.size hb)))
   | (go_at_call 113; go_must (refine (HT.out _).mono ?_; rintro e w1 ⟨rfl, hb⟩; have aa := Aside0.mk (qy HBB.out HBB.out.size hb)))
   | (go_at_call 93; go_must (refine (HN.out rfl _).mono ?_; rintro e w1 ⟨rfl, hb⟩; have aa := Aside0.mk (qy HBB.out HBB.out.size hb))))
  go_ret
  first | exact ⟨rfl, aa.out⟩ | exact ⟨rfl, HBB.out⟩)
structure Parts (op f1 f2 : Int) (f3 : ByteArray) (ks : List Tr) (A : Option Addr) (c : Nat) (w : World) : Prop where
 opn : ∀ (i : Nat), i < ks.length → ∀ W, Below w.heap.size w W → vL 114 #[.agg #[.int .i64 op, .int .i64 f1, .int .i64 f2, .string f3, .slice A ks.length c], .int .i64 (i : Int)] W (opn ⟨op, f1, f2, f3⟩ ks (shws ks) i)
theorem parts_of (op f1 f2 : Int) (f3 : ByteArray) (ks : List Tr) (hK : xF ks) (h1 : 1 ≤ op) (h2 : op ≤ 29) (A : Option Addr) (c : Nat) (w : World) (hC : Kd.C k130 w A ks.length ks) (hc : ks.length ≤ c) : Parts op f1 f2 f3 ks A c w :=
 ⟨fun i hi W hW => by
  obtain ⟨k, hk⟩ := (zA ⟨op, f1, f2, f3⟩ ks hK h1 h2 i hi).rounds
  exact qp.calls k op f1 f2 f3 A c ks i _ W (Kd.C_below hC hW) hc hk⟩
set_option maxHeartbeats 4000000 in
set_option maxRecDepth 100000 in
theorem show_one (op f1 f2 : Int) (f3 : ByteArray) (ks : List Tr) (hop : op = 8 ∧ zI (kid ks 0).f0.f0 = false ∨ op = 9 ∨ op = 10) (hl : 0 < ks.length) (A : Option Addr) (c : Nat) (w : World) (hC : Kd.C k130 w A ks.length ks) (hc : ks.length ≤ c) (HP : Parts op f1 f2 f3 ks A c w) (hq : (opn ⟨op, f1, f2, f3⟩ ks (shws ks) 0).length ≤ 140737488355328) :
 vL 72 #[.agg #[.int .i64 op, .int .i64 f1, .int .i64 f2, .string f3, .slice A ks.length c]] w (zb [] ⟨op, f1, f2, f3⟩ ks (shws ks)) := by
 obtain ⟨k1, k2, ab⟩ := xn w (TO ⟨op, f1, f2, f3⟩ ks A c) (NO ⟨op, f1, f2, f3⟩);have HB := Aside0.mk ab;have HO := Aside0.mk (HP.opn 0 hl);have HC := Aside0.mk hC;obtain ⟨s, hs⟩ : ∃ s, s = opn ⟨op, f1, f2, f3⟩ ks (shws ks) 0 := ⟨_, rfl⟩
 have hz : (str s).size + 12 ≤ 9223372036854775807 := by rw [zi, hs]; omega
 rw [← hs] at HO;have HZ := Aside0.mk hz;have hne : ks ≠ [] := List.length_pos_iff.1 hl
 rcases hop with ⟨rfl, hm⟩ | rfl | rfl
 · have hsg := vK 8 f1 f2 f3 ks (fun _ => hne)
   rw [hm, Bool.and_false] at hsg;have HS := Aside0.mk hsg;have HN : Aside0 (zb [] ⟨8, f1, f2, f3⟩ ks (shws ks) = [78, 79, 84, 32] ++ s) := ⟨by rw [hs]; unfold zb; rw [if_neg (show ¬ (8 : Int) ≤ 6 by decide), if_neg (show ¬ (8 : Int) = 7 by decide), if_pos rfl, hm, if_neg (by decide)]⟩
   have ac : ¬ 9223372036854775807 < 4 + (str s).size := by omega
   clear hC HP ab hq hs hz hm hsg hne hl
   go_enter Tryz.func72, Tryz.ntmps72
   go_wp2_with (first
    | (go_at_call 111; go_must (refine (zc.calls 8 f1 f2 f3 A c ks false _ (Kd.C_below HC.out HB.out) hc HS.out).mono ?_; rintro e w1 ⟨rfl, hb⟩; replace k1 := (hb.block w.heap.size (zv k1)).trans k1; replace HB := Aside0.mk (qy HB.out HB.out.size hb); have ae : w1.cell? ⟨w.heap.size, 0, none⟩ = some (.int .i64 8) := (qa k1 0).trans rfl; have af : w1.cell? ⟨w.heap.size, 1, none⟩ = some (.int .i64 f1) := (qa k1 1).trans rfl; have ag : w1.cell? ⟨w.heap.size, 2, none⟩ = some (.int .i64 f2) := (qa k1 2).trans rfl; have ah : w1.cell? ⟨w.heap.size, 3, none⟩ = some (.string f3) := (qa k1 3).trans rfl; have ai : w1.cell? ⟨w.heap.size, 4, none⟩ = some (.slice A ks.length c) := (qa k1 4).trans rfl; clear hb))
    | (go_at_call 114; go_must (refine (HO.out _ HB.out).mono ?_; rintro e w2 ⟨rfl, hb⟩; have aa := Aside0.mk (qy HB.out HB.out.size hb); clear hb)))
   go_ret
   rw [HN.out]
   exact ⟨str_eq (zm _ _), aa.out⟩
 · have HN : Aside0 (zb [] ⟨9, f1, f2, f3⟩ ks (shws ks) = s ++ [32, 73, 83, 32, 78, 85, 76, 76]) := ⟨by rw [hs]; rfl⟩
   have ac : ¬ 9223372036854775807 < (str s).size + 8 := by omega
   clear hC HP ab hq hs hz hne hl
   go_enter Tryz.func72, Tryz.ntmps72
   go_wp2_with (first
    | (go_at_call 114; go_must (refine (HO.out _ HB.out).mono ?_; rintro e w2 ⟨rfl, hb⟩; have aa := Aside0.mk (qy HB.out HB.out.size hb); clear hb)))
   go_ret
   rw [HN.out]
   exact ⟨str_eq (zm _ _), aa.out⟩
 · have HN : Aside0 (zb [] ⟨10, f1, f2, f3⟩ ks (shws ks) = s ++ [32, 73, 83, 32, 78, 79, 84, 32, 78, 85, 76, 76]) := ⟨by rw [hs]; rfl⟩
   have ac : ¬ 9223372036854775807 < (str s).size + 12 := by omega
   clear hC HP ab hq hs hz hne hl
   go_enter Tryz.func72, Tryz.ntmps72
   go_wp2_with (first
    | (go_at_call 114; go_must (refine (HO.out _ HB.out).mono ?_; rintro e w2 ⟨rfl, hb⟩; have aa := Aside0.mk (qy HB.out HB.out.size hb); clear hb)))
   go_ret
   rw [HN.out]
   exact ⟨str_eq (zm _ _), aa.out⟩
set_option maxHeartbeats 4000000 in
set_option maxRecDepth 100000 in
theorem show_neg (f1 f2 : Int) (f3 : ByteArray) (ks : List Tr) (hl : 0 < ks.length) (hg : gdX (kid ks 0).f0 (kid ks 0).f1.length = true) (A : Option Addr) (c : Nat) (w : World) (HP : Parts 7 f1 f2 f3 ks A c w) (hq : (opn ⟨7, f1, f2, f3⟩ ks (shws ks) 0).length ≤ 140737488355328) :
 vL 72 #[.agg #[.int .i64 7, .int .i64 f1, .int .i64 f2, .string f3, .slice A ks.length c]] w (zb [] ⟨7, f1, f2, f3⟩ ks (shws ks)) := by
 obtain ⟨_, _, aa⟩ := xn w (TO ⟨7, f1, f2, f3⟩ ks A c) (NO ⟨7, f1, f2, f3⟩);have HB := Aside0.mk aa;have HO := Aside0.mk (HP.opn 0 hl);obtain ⟨x, r, d1, d2⟩ := dash_head (kid ks 0) hg
 have d3 : opn ⟨7, f1, f2, f3⟩ ks (shws ks) 0 = x :: r := by
  unfold opn;rw [xS ks 0 hl, ← vd ks 0 hl, ← d1]
  rfl
 have hN : zb [] ⟨7, f1, f2, f3⟩ ks (shws ks) = 45 :: ((if (kid ks 0).f0.f0 = 7 then [32] else []) ++ (x :: r)) := by rw [← d3]; rfl
 rw [d3] at HO hq;obtain ⟨s, hs⟩ : ∃ s, s = str (x :: r) := ⟨_, rfl⟩
 have h0 : 0 < s.size := by rw [hs, zi, List.length_cons]; omega
 have e0 : (s[0]'h0).toNat = x.toNat := by subst hs; rfl
 have h0' : 0 < (s.size : Int) := by omega
 have ae : Aside0 (∀ W, Below w.heap.size w W → Calls Tryz.prog 114 #[.agg #[.int .i64 7, .int .i64 f1, .int .i64 f2, .string f3, .slice A ks.length c], .int .i64 0] W fun e w' => e = .returned (.string s) ∧ Below W.heap.size W w') := ⟨by rw [hs]; exact HO.out⟩
 have hz : s.size ≤ 140737488355328 := by rw [hs, zi]; exact hq
 by_cases hx : x = 45
 · have e1 : ((x.toNat : Int) == 45) = true := by rw [hx]; rfl
   rw [if_pos (d2.1 hx)] at hN;have HN : Aside0 (str (zb [] ⟨7, f1, f2, f3⟩ ks (shws ks)) = (⟨#[45, 32]⟩ : ByteArray) ++ s) := ⟨by rw [hN, hs]; exact (zm [45, 32] (x :: r)).symm⟩
   have ah : ¬ 9223372036854775807 < 2 + s.size := by omega
   clear hN hz hq HO d3 d1 d2 hg hl HP aa hs hx
   go_enter Tryz.func72, Tryz.ntmps72
   go_wp2_with (first
    | (go_at_call 114; go_must (refine (ae.out _ HB.out).mono ?_; rintro e w2 ⟨rfl, hb⟩; have ab := Aside0.mk (qy HB.out HB.out.size hb); clear hb)))
   go_ret
   rw [HN.out]
   exact ⟨rfl, ab.out⟩
 · have af : ¬ (x.toNat : Int) = 45 := fun h => hx (UInt8.toNat_inj.1 (by have : (45 : UInt8).toNat = 45 := rfl; omega))
   have e1 : ((x.toNat : Int) == 45) = false := by simpa using af
   rw [if_neg (fun h => hx (d2.2 h))] at hN;have HN : Aside0 (str (zb [] ⟨7, f1, f2, f3⟩ ks (shws ks)) = (⟨#[45]⟩ : ByteArray) ++ s) := ⟨by rw [hN, hs]; exact (zm [45] (x :: r)).symm⟩
   have ah : ¬ 9223372036854775807 < 1 + s.size := by omega
   clear hN hz hq HO d3 d1 d2 hg hl HP aa hs hx af
   go_enter Tryz.func72, Tryz.ntmps72
   go_wp2_with (first
    | (go_at_call 114; go_must (refine (ae.out _ HB.out).mono ?_; rintro e w2 ⟨rfl, hb⟩; have ab := Aside0.mk (qy HB.out HB.out.size hb); clear hb)))
   go_ret
   rw [HN.out]
   exact ⟨rfl, ab.out⟩
set_option maxHeartbeats 4000000 in
set_option maxRecDepth 100000 in
theorem show_nots (f1 f2 : Int) (f3 : ByteArray) (ks : List Tr) (hl : 0 < ks.length) (hm : zI (kid ks 0).f0.f0 = true) (ht : qY (kid ks 0).f0.f0 (kid ks 0).f0.f3 (kid ks 0).f1.length = true) (hK : xF (kid ks 0).f1) (A : Option Addr) (c : Nat) (w : World) (hC : Kd.C k130 w A ks.length ks) (hc : ks.length ≤ c) :
 vL 72 #[.agg #[.int .i64 8, .int .i64 f1, .int .i64 f2, .string f3, .slice A ks.length c]] w (zb [] ⟨8, f1, f2, f3⟩ ks (shws ks)) := by
 obtain ⟨k1, _, ag⟩ := xn w (TO ⟨8, f1, f2, f3⟩ ks A c) (NO ⟨8, f1, f2, f3⟩);have HB := Aside0.mk ag;have HC := Aside0.mk hC;have hne : ks ≠ [] := List.length_pos_iff.1 hl;have hsg := vK 8 f1 f2 f3 ks (fun _ => hne);rw [hm, Bool.and_true, decide_eq_true rfl] at hsg;have HS := Aside0.mk hsg
 have hN : zb [] ⟨8, f1, f2, f3⟩ ks (shws ks) = zb [32, 78, 79, 84] (kid ks 0).f0 (kid ks 0).f1 (shws (kid ks 0).f1) := by
  conv => lhs; unfold zb
  rw [if_neg (show ¬ (8 : Int) ≤ 6 by decide), if_neg (show ¬ (8 : Int) = 7 by decide), if_pos rfl, if_pos hm, xS ks 0 hl, ← vd ks 0 hl]
  cases kid ks 0
  rfl
 rw [hN];obtain ⟨k, hk⟩ := (tested_ref (kid ks 0).f0 (kid ks 0).f1 hK ((xM _).1 hm) ht [78, 79, 84, 32] [32, 78, 79, 84] rfl (by simp)).rounds;have HT := Aside0.mk hk;obtain ⟨ad, A4, c4, rfl, g0, g1, g2, g3, g4, gc, gC⟩ := vh hC 0 (by omega) (by have := hC.1; omega);have hr : qA ks 0 = kid ks 0 := rfl;rw [hr] at g0 g1 g2 g3 g4 gc gC;have ez : ((0 : Int).toNat * 5) = 0 := rfl;rw [ez, zy] at g0 g1 g2 g3 g4;have HG := Aside0.mk (And.intro g0 (And.intro g1 (And.intro g2 (And.intro g3 g4))));have HGC := Aside0.mk gC
 have d9 : (0 : Int) < (ks.length : Int) := by omega
 clear hN g0 g1 g2 g3 g4 gC hk hsg hr hK ht hm hne hC ag hl ez;generalize kid ks 0 = t at *
 go_enter Tryz.func72, Tryz.ntmps72
 go_wp2_with (first
  | (go_at_call 111; go_must (refine (zc.calls 8 f1 f2 f3 (some ad) c ks true _ (Kd.C_below HC.out HB.out) hc HS.out).mono ?_; rintro e w1 ⟨rfl, hb⟩; replace k1 := (hb.block w.heap.size (zv k1)).trans k1; replace HB := Aside0.mk (qy HB.out HB.out.size hb); have aj : w1.cell? ⟨w.heap.size, 4, none⟩ = some (.slice (some ad) ks.length c) := (qa k1 4).trans rfl; have q0 := qB HB.out HG.out.1; have q1 := qB HB.out HG.out.2.1; have q2 := qB HB.out HG.out.2.2.1; have q3 := qB HB.out HG.out.2.2.2.1; have q4 := qB HB.out HG.out.2.2.2.2; clear hb))
  | (go_at_call 115; go_must (refine (qM.calls k t.f0.f0 t.f0.f1 t.f0.f2 t.f0.f3 A4 c4 t.f1 (str [78, 79, 84, 32]) _ _ (Kd.C_below HGC.out HB.out) gc HT.out).mono ?_; rintro e w2 ⟨rfl, hb⟩; have ah := Aside0.mk (qy HB.out HB.out.size hb); clear hb)))
 go_ret
 exact ⟨rfl, ah.out⟩
set_option maxHeartbeats 4000000 in
set_option maxRecDepth 100000 in
theorem show_mat (op f1 f2 : Int) (f3 : ByteArray) (ks : List Tr) (hop : op = 26 ∨ op = 27 ∨ op = 25) (ht : qY op f3 ks.length = true) (hK : xF ks) (A : Option Addr) (c : Nat) (w : World) (hC : Kd.C k130 w A ks.length ks) (hc : ks.length ≤ c) :
 vL 72 #[.agg #[.int .i64 op, .int .i64 f1, .int .i64 f2, .string f3, .slice A ks.length c]] w (zb [] ⟨op, f1, f2, f3⟩ ks (shws ks)) := by
 obtain ⟨_, _, aa⟩ := xn w (TO ⟨op, f1, f2, f3⟩ ks A c) (NO ⟨op, f1, f2, f3⟩);have HB := Aside0.mk aa;have HC := Aside0.mk hC;obtain ⟨k, hk⟩ := (tested_ref ⟨op, f1, f2, f3⟩ ks hK (by dsimp only; omega) ht [] [] rfl (by simp)).rounds;have HT := Aside0.mk hk;clear aa hC hk ht hK
 rcases hop with rfl | rfl | rfl
 all_goals (
  go_enter Tryz.func72, Tryz.ntmps72
  go_wp2_with (first
   | (go_at_call 115; go_must (refine (qM.calls k _ f1 f2 f3 A c ks (str []) _ _ (Kd.C_below HC.out HB.out) hc HT.out).mono ?_; rintro e w2 ⟨rfl, hb⟩; have ab := Aside0.mk (qy HB.out HB.out.size hb); clear hb)))
  go_ret
  exact ⟨rfl, ab.out⟩)
set_option maxHeartbeats 4000000 in
set_option maxRecDepth 100000 in
theorem show_case (f1 f2 : Int) (f3 : ByteArray) (ks : List Tr) (h3 : 3 ≤ ks.length) (ho : ks.length % 2 = 1) (hK : xF ks) (A : Option Addr) (c : Nat) (w : World) (hC : Kd.C k130 w A ks.length ks) (hc : ks.length ≤ c) :
 vL 72 #[.agg #[.int .i64 28, .int .i64 f1, .int .i64 f2, .string f3, .slice A ks.length c]] w (zb [] ⟨28, f1, f2, f3⟩ ks (shws ks)) := by
 obtain ⟨_, _, aa⟩ := xn w (TO ⟨28, f1, f2, f3⟩ ks A c) (NO ⟨28, f1, f2, f3⟩);have HB := Aside0.mk aa;have HC := Aside0.mk hC;obtain ⟨k, hk⟩ := (cases_ref ⟨28, f1, f2, f3⟩ ks hK rfl h3 ho).rounds;have hN : zb [] ⟨28, f1, f2, f3⟩ ks (shws ks) = [67, 65, 83, 69] ++ whenL ((ks.zip (shws ks)).take (ks.length - 1)) ++ [32, 69, 76, 83, 69, 32] ++ opn ⟨28, f1, f2, f3⟩ ks (shws ks) (ks.length - 1) ++ [32, 69, 78, 68] := rfl;rw [hN];clear hN
 dsimp only at hk
 generalize [67, 65, 83, 69] ++ whenL ((ks.zip (shws ks)).take (ks.length - 1)) ++ [32, 69, 76, 83, 69, 32] ++ opn ⟨28, f1, f2, f3⟩ ks (shws ks) (ks.length - 1) ++ [32, 69, 78, 68] = s at *;have HT := Aside0.mk hk;clear aa hC hk hK h3 ho
 go_enter Tryz.func72, Tryz.ntmps72
 go_wp2_with (first
  | (go_at_call 116; go_must (refine (qE.calls k 28 f1 f2 f3 A c ks _ _ (Kd.C_below HC.out HB.out) hc HT.out).mono ?_; rintro e w2 ⟨rfl, hb⟩; have ac := Aside0.mk (qy HB.out HB.out.size hb); clear hb)))
 go_ret
 exact ⟨rfl, ac.out⟩
set_option maxHeartbeats 4000000 in
set_option maxRecDepth 100000 in
theorem show_call (f1 f2 : Int) (f3 : ByteArray) (ks : List Tr) (hK : xF ks) (hf : f3.size ≤ 1000000000) (A : Option Addr) (c : Nat) (w : World) (hC : Kd.C k130 w A ks.length ks) (hc : ks.length ≤ c) :
 vL 72 #[.agg #[.int .i64 29, .int .i64 f1, .int .i64 f2, .string f3, .slice A ks.length c]] w (zb [] ⟨29, f1, f2, f3⟩ ks (shws ks)) := by
 obtain ⟨k1, k2, ae⟩ := xn w (TO ⟨29, f1, f2, f3⟩ ks A c) (NO ⟨29, f1, f2, f3⟩);have HB := Aside0.mk ae;have HC := Aside0.mk hC;obtain ⟨k, hk⟩ := (listed_ref ⟨29, f1, f2, f3⟩ ks hK (show (1 : Int) ≤ 29 by decide) (show (29 : Int) ≤ 29 by decide) 0 (fun i _ => rfl)).rounds;have l1 : (lstL (ks.zip (shws ks))).length ≤ 140737488355328 := Nat.le_trans (Nat.le_trans (lst_tot _) (xY _ _)) hK.sized;have ab : qC.f k 29 f1 f2 f3 ks 0 = some (str (lstL (ks.zip (shws ks)))) := hk
 have hN : str (zb [] ⟨29, f1, f2, f3⟩ ks (shws ks)) = f3 ++ (⟨#[40]⟩ : ByteArray) ++ str (lstL (ks.zip (shws ks))) ++ (⟨#[41]⟩ : ByteArray) := by
  have e1 : (⟨#[40]⟩ : ByteArray) = str [40] := rfl;have e2 : (⟨#[41]⟩ : ByteArray) = str [41] := rfl;have e3 : f3 = str f3.data.toList := (str_of f3).symm
  conv => rhs; rw [e1, e2, e3]
  rw [zm, zm, zm]
  rfl
 obtain ⟨s, hs⟩ : ∃ s, s = str (lstL (ks.zip (shws ks))) := ⟨_, rfl⟩;rw [← hs] at hN ab
 have hz : s.size ≤ 140737488355328 := by rw [hs, zi]; exact l1
 have HN := Aside0.mk hN;have HT := Aside0.mk ab
 have z1 : ¬ 9223372036854775807 < f3.size + 1 := by omega
 have z2 : ¬ 9223372036854775807 < f3.size + 1 + s.size := by omega
 have z3 : ¬ 9223372036854775807 < f3.size + 1 + s.size + 1 := by omega
 have K1 := Aside0.mk k1;have K2 := Aside0.mk k2;clear ae hC hk ab hN hs hz l1 hK hf k1 k2
 go_enter Tryz.func72, Tryz.ntmps72
 go_upto_region 35 with (fail)
 go_region_law (first
  | ((try go_simp); go_at_call 117; refine (qC.calls k 29 f1 f2 f3 A c ks 0 s _ (by repeat (first | exact Kd.C_below HC.out HB.out | refine Kd.C_drewN ?_ _ | refine Kd.C_drew ?_)) hc HT.out).mono ?_; rintro e WW ⟨rfl, hb⟩; replace K1 := Aside0.mk ((hb.block w.heap.size (zv K1.out)).trans K1.out); replace K2 := Aside0.mk ((hb.block (w.heap.size + 1) (zv K2.out)).trans K2.out); replace HB := Aside0.mk (qy (by repeat (first | exact HB.out | apply q9 | apply qb)) (by have := HB.out.size; exact this) hb); have aj : WW.cell? ⟨w.heap.size, 0, none⟩ = some (.int .i64 29) := (qa K1.out 0).trans rfl; have ak : WW.cell? ⟨w.heap.size, 1, none⟩ = some (.int .i64 f1) := (qa K1.out 1).trans rfl; have al : WW.cell? ⟨w.heap.size, 2, none⟩ = some (.int .i64 f2) := (qa K1.out 2).trans rfl; have am : WW.cell? ⟨w.heap.size, 3, none⟩ = some (.string f3) := (qa K1.out 3).trans rfl; have an : WW.cell? ⟨w.heap.size, 4, none⟩ = some (.slice A ks.length c) := (qa K1.out 4).trans rfl; have ao : WW.cell? ⟨w.heap.size + 1, 0, none⟩ = some (.int .i64 29) := (qa K2.out 0).trans rfl; have ap : WW.cell? ⟨w.heap.size + 1, 3, none⟩ = some (.string f3) := (qa K2.out 3).trans rfl; clear hb))
 all_goals (
  go_wp2
  go_ret
  rw [HN.out]
  exact ⟨rfl, by repeat (first | exact HB.out | apply q9 | apply qb)⟩)
def TS : Bool × List (List Nat × List Nat) := (true, [([], []), ([0], [0]), ([1], [1]), ([], []), ([3], [3]), ([4, 1], [4]), ([2, 5], [2, 5]), ([6], [6]), ([], []), ([8, 5], [8]), ([7, 9], [7, 9]), ([10, 9, 0, 1, 2, 3, 4, 5, 6, 7, 8, 9, 10], [10])])
def BS : List Nat := [0, 1, 3, 0, 8, 27, 63, 127, 0, 315, 1023, 2047]
theorem tabS : rtab .any (opsOf Tryz.f72 36) = TS := by kernel_rfl
theorem bitsS : vg TS.2 BS = true := by kernel_rfl
set_option maxHeartbeats 8000000 in
set_option maxRecDepth 100000 in
theorem show_dyad (op f1 f2 : Int) (f3 : ByteArray) (ks : List Tr) (h1 : 11 ≤ op) (h2 : op ≤ 24) (hl : 1 < ks.length) (hK : xF ks) (A : Option Addr) (c : Nat) (w : World) (hC : Kd.C k130 w A ks.length ks) (hc : ks.length ≤ c) (ah : (opn ⟨op, f1, f2, f3⟩ ks (shws ks) 0).length ≤ 140737488355328) (ai : (opn ⟨op, f1, f2, f3⟩ ks (shws ks) 1).length ≤ 140737488355328) :
 vL 72 #[.agg #[.int .i64 op, .int .i64 f1, .int .i64 f2, .string f3, .slice A ks.length c]] w (zb [] ⟨op, f1, f2, f3⟩ ks (shws ks)) := by
 have HCC := Aside0.mk hc;have HC := Aside0.mk hC;obtain ⟨K0, e0⟩ := zA ⟨op, f1, f2, f3⟩ ks hK (by dsimp only; omega) (by dsimp only; omega) 0 (by omega);obtain ⟨K9, e9⟩ := zA ⟨op, f1, f2, f3⟩ ks hK (by dsimp only; omega) (by dsimp only; omega) 1 hl;obtain ⟨k, hk⟩ : ∃ k, k = max K0 K9 := ⟨_, rfl⟩;have aj : Aside0 (qp.f k op f1 f2 f3 ks 0 = some (str (opn ⟨op, f1, f2, f3⟩ ks (shws ks) 0))) := ⟨e0 k (by omega)⟩;have ak : Aside0 (qp.f k op f1 f2 f3 ks 1 = some (str (opn ⟨op, f1, f2, f3⟩ ks (shws ks) 1))) := ⟨e9 k (by omega)⟩;clear e0 e9 hk;obtain ⟨k1, k2, al⟩ := xn w (TO ⟨op, f1, f2, f3⟩ ks A c) (NO ⟨op, f1, f2, f3⟩);have HB := Aside0.mk al;have HX := Aside0.mk (opText_ref op h1 h2);have lS := sign_two op
 have hN : str (zb [] ⟨op, f1, f2, f3⟩ ks (shws ks)) = str (opn ⟨op, f1, f2, f3⟩ ks (shws ks) 0) ++ (⟨#[32]⟩ : ByteArray) ++ str (vf op) ++ (⟨#[32]⟩ : ByteArray) ++ str (opn ⟨op, f1, f2, f3⟩ ks (shws ks) 1) := by
  have e1 : (⟨#[32]⟩ : ByteArray) = str [32] := rfl;rw [e1, zm, zm, zm, zm]
  apply congrArg str
  unfold zb
  dsimp only
  rw [if_neg (by omega), if_neg (by omega), if_neg (by omega), if_neg (by omega), if_neg (by omega), if_pos h2]
  simp
 obtain ⟨s0, af⟩ : ∃ s, s = str (opn ⟨op, f1, f2, f3⟩ ks (shws ks) 0) := ⟨_, rfl⟩;obtain ⟨s1, ag⟩ : ∃ s, s = str (opn ⟨op, f1, f2, f3⟩ ks (shws ks) 1) := ⟨_, rfl⟩;obtain ⟨sx, hsx⟩ : ∃ s, s = str (vf op) := ⟨_, rfl⟩;rw [← af] at aj hN;rw [← ag] at ak hN;rw [← hsx] at HX hN
 have w0 : s0.size ≤ 140737488355328 := by rw [af, zi]; exact ah
 have w1 : s1.size ≤ 140737488355328 := by rw [ag, zi]; exact ai
 have wx : sx.size ≤ 3 := by rw [hsx, zi]; exact lS
 have HN := Aside0.mk hN
 have z1 : ¬ 9223372036854775807 < s0.size + 1 := by omega
 have y1 := eq_false z1
 have z2 : ¬ 9223372036854775807 < s0.size + 1 + sx.size := by omega
 have y2 := eq_false z2
 have z3 : ¬ 9223372036854775807 < s0.size + 1 + sx.size + 1 := by omega
 have y3 := eq_false z3
 have z4 : ¬ 9223372036854775807 < s0.size + 1 + sx.size + 1 + s1.size := by omega
 have y4 := eq_false z4
 have b1 : (op == 1) = false := by simp; omega
 have b2 : (op == 2) = false := by simp; omega
 have b3 : (op == 3) = false := by simp; omega
 have b4 : (op == 4) = false := by simp; omega
 have b5 : (op == 5) = false := by simp; omega
 have b6 : (op == 6) = false := by simp; omega
 have b7 : (op == 7) = false := by simp; omega
 have b8 : (op == 8) = false := by simp; omega
 have b9 : (op == 9) = false := by simp; omega
 have bc : (op == 10) = false := by simp; omega
 have bd : (op == 25) = false := by simp; omega
 have bf : (op == 26) = false := by simp; omega
 have bg : (op == 27) = false := by simp; omega
 have bh : (op == 28) = false := by simp; omega
 have bi : (op == 29) = false := by simp; omega
 have K1 := Aside0.mk k1;have K2 := Aside0.mk k2;clear al hN af ag hsx w0 w1 wx ah ai hC hc hK lS h1 h2 hl k1 k2
 go_enter Tryz.func72, Tryz.ntmps72
 go_upto_region 36 with (fail)
 generalize ((w.alloc (TO ⟨op, f1, f2, f3⟩ ks A c)).alloc (NO ⟨op, f1, f2, f3⟩)) = wc at K1 K2 HB ⊢;replace K1 := Aside0.mk (qh K1.out);replace K2 := Aside0.mk (qh K2.out);replace HB := Aside0.mk (qb HB.out)
 refine start_ (n := 12) (S := fun w' => w'.cell? ⟨w.heap.size, 0, none⟩ = some (.int .i64 op) ∧ w'.cell? ⟨w.heap.size, 1, none⟩ = some (.int .i64 f1) ∧ w'.cell? ⟨w.heap.size, 2, none⟩ = some (.int .i64 f2) ∧ w'.cell? ⟨w.heap.size, 3, none⟩ = some (.string f3) ∧ w'.cell? ⟨w.heap.size, 4, none⟩ = some (.slice A ks.length c) ∧ w'.cell? ⟨w.heap.size + 1, 0, none⟩ = some (.int .i64 op) ∧ w'.cell? ⟨w.heap.size + 1, 1, none⟩ = some (.int .i64 f1) ∧ w'.cell? ⟨w.heap.size + 1, 2, none⟩ = some (.int .i64 f2) ∧ w'.cell? ⟨w.heap.size + 1, 3, none⟩ = some (.string f3)) (ds := []) #[false, false, false, false, false, false, false, false, false, false, false, false] (by kernel_rfl) rfl rfl ⟨(qa K1.out 0).trans rfl, (qa K1.out 1).trans rfl, (qa K1.out 2).trans rfl, (qa K1.out 3).trans rfl, (qa K1.out 4).trans rfl, (qa K2.out 0).trans rfl, (qa K2.out 1).trans rfl, (qa K2.out 2).trans rfl, (qa K2.out 3).trans rfl⟩ (fun hHeld => ?_); refine vm tabS bitsS (fun HT_ HW_ => ?_)
 generalize wc.drew = a9 at K1 K2 HB hHeld ⊢;refine zf (i := 3) (N := some 85) (v := ?_) (a' := ?_) #[false, false, false, true, false, false, false, false, false, false, false, false] rfl rfl (zd HT_.out (by kernel_rfl)) (fun _ _ _ h => h) (Or.inl ⟨by rfl, ?_⟩) ?_ ?_;rotate_left
 · intro w'
   go_simp
   with_reducible rfl
 rotate_left
 · simp only [Act.put, List.setIfInBounds_toArray, List.set_cons_zero, List.set_cons_succ, qH, qK]
   rfl
 refine xW (i := 0) (N := some 82) (v := ?_) (a' := ?_) #[true, false, false, true, false, false, false, false, false, false, false, false] rfl rfl (zP HT_.out HW_.out (by kernel_rfl)) (fun _ _ _ h => h) (Or.inl ⟨by rfl, ?_⟩) hHeld ?_ ?_;rotate_left
 · rintro w' ⟨s0, s1, s2, s3, s4, s5, s6, s7, s8⟩
   go_simp
   with_reducible rfl
 rotate_left
 · simp only [Act.put, List.setIfInBounds_toArray, List.set_cons_zero, List.set_cons_succ, qH, qK]
   rfl
 refine xW (i := 4) (N := some 86) (v := ?_) (a' := ?_) #[true, false, false, true, true, false, false, false, false, false, false, false] rfl rfl (zP HT_.out HW_.out (by kernel_rfl)) (fun _ _ _ h => h) (Or.inl ⟨by rfl, ?_⟩) hHeld ?_ ?_;rotate_left
 · rintro w' ⟨s0, s1, s2, s3, s4, s5, s6, s7, s8⟩
   go_simp
   with_reducible rfl
 rotate_left
 · simp only [Act.put, List.setIfInBounds_toArray, List.set_cons_zero, List.set_cons_succ, qH, qK]
   rfl
 refine xW (i := 8) (N := some 90) (v := ?_) (a' := ?_) #[true, false, false, true, true, false, false, false, true, false, false, false] rfl rfl (zP HT_.out HW_.out (by kernel_rfl)) (fun _ _ _ h => h) (Or.inl ⟨by rfl, ?_⟩) hHeld ?_ ?_;rotate_left
 · rintro w' ⟨s0, s1, s2, s3, s4, s5, s6, s7, s8⟩
   go_simp
   with_reducible rfl
 rotate_left
 · simp only [Act.put, List.setIfInBounds_toArray, List.set_cons_zero, List.set_cons_succ, qH, qK]
   rfl
 refine one_ (i := 1) (N := some 83) #[true, true, false, true, true, false, false, false, true, false, false, false] rfl rfl (xC HT_.out (by kernel_rfl)) (by decide) (fun K hK => ?_);refine vF Tryz.func114 (by kernel_rfl) rfl #[.agg #[.int .i64 op, .int .i64 f1, .int .i64 f2, .string f3, .slice A ks.length c], .int .i64 0] (by rfl) rfl rfl (by (try simp only [List.map_toArray, List.map_cons, List.map_nil]); first | done | rfl | (simp only [List.length_drop, List.length_take]; rfl)) ?_
 with_reducible refine (qp.calls k op f1 f2 f3 _ _ ks 0 s0 _ ?side1 ?side2 aj.out).mono ?_
 (case side1 => repeat (first | exact (Kd.C_below HC.out HB.out) | (with_reducible refine Kd.C_alloc ?_ _) | (with_reducible refine Kd.C_drewN ?_ _) | (with_reducible refine Kd.C_drew ?_)))
 (case side2 => exact HCC.out)
 rintro e ba ⟨rfl, hb⟩
 refine ⟨_, rfl, ?_⟩;replace K1 := Aside0.mk (qF (g := w.heap.size) (o := .cells #[.int .i64 op, .int .i64 f1, .int .i64 f2, .string f3, .slice A ks.length c] 130 (0, 0)) (by (with_reducible repeat (first | refine qf ?_ _ | refine qh ?_ | refine qe ?_ _)); exact K1.out) hb);replace K2 := Aside0.mk (qF (g := w.heap.size + 1) (o := .cells #[.int .i64 op, .int .i64 f1, .int .i64 f2, .string f3] 86 (0, 0)) (by (with_reducible repeat (first | refine qf ?_ _ | refine qh ?_ | refine qe ?_ _)); exact K2.out) hb);replace HB := Aside0.mk (qr (by repeat (first | (with_reducible first | exact HB.out | apply q8 | apply q9 | apply qb) | exact HB.out)) hb)
 (try clear hb)
 (try clear a0)
 (try clear hk)
 (try clear hi)
 refine hK.out _ _ ⟨(qa K1.out 0).trans rfl, (qa K1.out 1).trans rfl, (qa K1.out 2).trans rfl, (qa K1.out 3).trans rfl, (qa K1.out 4).trans rfl, (qa K2.out 0).trans rfl, (qa K2.out 1).trans rfl, (qa K2.out 2).trans rfl, (qa K2.out 3).trans rfl⟩ (fun hHeld => ?_);clear hK K;refine xA (a' := ?_) ?_ ?_;rotate_left
 · show Act.put _ (some 83) _ = _
   simp only [Act.put, List.setIfInBounds_toArray, List.set_cons_zero, List.set_cons_succ, qH, qK]
   rfl
 refine zf (i := 2) (N := some 84) (v := ?_) (a' := ?_) #[true, true, true, true, true, false, false, false, true, false, false, false] rfl rfl (zd HT_.out (by kernel_rfl)) (fun _ _ _ h => h) (Or.inl ⟨by rfl, ?_⟩) ?_ ?_;rotate_left
 · intro w'
   go_simp
   with_reducible rfl
 rotate_left
 · simp only [Act.put, List.setIfInBounds_toArray, List.set_cons_zero, List.set_cons_succ, qH, qK]
   rfl
 refine one_ (i := 5) (N := some 87) #[true, true, true, true, true, true, false, false, true, false, false, false] rfl rfl (xC HT_.out (by kernel_rfl)) (by decide) (fun K hK => ?_);refine vF Tryz.func118 (by kernel_rfl) rfl #[.int .i64 op] (by rfl) rfl rfl (by (try simp only [List.map_toArray, List.map_cons, List.map_nil]); first | done | rfl | (simp only [List.length_drop, List.length_take]; rfl)) ?_
 with_reducible refine (xg.calls op sx _ HX.out).mono ?_
 rintro e w' ⟨rfl, ⟨nd, rfl⟩⟩
 refine ⟨_, rfl, ?_⟩;refine hK.out _ _ ⟨(qa K1.out 0).trans rfl, (qa K1.out 1).trans rfl, (qa K1.out 2).trans rfl, (qa K1.out 3).trans rfl, (qa K1.out 4).trans rfl, (qa K2.out 0).trans rfl, (qa K2.out 1).trans rfl, (qa K2.out 2).trans rfl, (qa K2.out 3).trans rfl⟩ (fun hHeld => ?_);clear hK K;refine xA (a' := ?_) ?_ ?_;rotate_left
 · show Act.put _ (some 87) _ = _
   simp only [Act.put, List.setIfInBounds_toArray, List.set_cons_zero, List.set_cons_succ, qH, qK]
   rfl
 refine zf (i := 6) (N := some 88) (v := ?_) (a' := ?_) #[true, true, true, true, true, true, true, false, true, false, false, false] rfl rfl (zd HT_.out (by kernel_rfl)) (fun _ _ _ h => h) (Or.inl ⟨by rfl, ?_⟩) ?_ ?_;rotate_left
 · intro w'
   go_simp
   with_reducible rfl
 rotate_left
 · simp only [Act.put, List.setIfInBounds_toArray, List.set_cons_zero, List.set_cons_succ, qH, qK]
   rfl
 refine zf (i := 7) (N := some 89) (v := ?_) (a' := ?_) #[true, true, true, true, true, true, true, true, true, false, false, false] rfl rfl (zd HT_.out (by kernel_rfl)) (fun _ _ _ h => h) (Or.inl ⟨by rfl, ?_⟩) ?_ ?_;rotate_left
 · intro w'
   go_simp
   with_reducible rfl
 rotate_left
 · simp only [Act.put, List.setIfInBounds_toArray, List.set_cons_zero, List.set_cons_succ, qH, qK]
   rfl
 refine one_ (i := 9) (N := some 91) #[true, true, true, true, true, true, true, true, true, true, false, false] rfl rfl (xC HT_.out (by kernel_rfl)) (by decide) (fun K hK => ?_);refine vF Tryz.func114 (by kernel_rfl) rfl #[.agg #[.int .i64 op, .int .i64 f1, .int .i64 f2, .string f3, .slice A ks.length c], .int .i64 1] (by rfl) rfl rfl (by (try simp only [List.map_toArray, List.map_cons, List.map_nil]); first | done | rfl | (simp only [List.length_drop, List.length_take]; rfl)) ?_
 with_reducible refine (qp.calls k op f1 f2 f3 _ _ ks 1 s1 _ ?side1 ?side2 ak.out).mono ?_
 (case side1 => repeat (first | exact (Kd.C_below HC.out (by repeat (first | (with_reducible first | exact HB.out | apply q8 | apply q9 | apply qb) | exact HB.out))) | (with_reducible refine Kd.C_alloc ?_ _) | (with_reducible refine Kd.C_drewN ?_ _) | (with_reducible refine Kd.C_drew ?_)))
 (case side2 => exact HCC.out)
 rintro e bb ⟨rfl, hb⟩
 refine ⟨_, rfl, ?_⟩;replace K1 := Aside0.mk (qF (g := w.heap.size) (o := .cells #[.int .i64 op, .int .i64 f1, .int .i64 f2, .string f3, .slice A ks.length c] 130 (0, 0)) (by (with_reducible repeat (first | refine qf ?_ _ | refine qh ?_ | refine qe ?_ _)); exact K1.out) hb);replace K2 := Aside0.mk (qF (g := w.heap.size + 1) (o := .cells #[.int .i64 op, .int .i64 f1, .int .i64 f2, .string f3] 86 (0, 0)) (by (with_reducible repeat (first | refine qf ?_ _ | refine qh ?_ | refine qe ?_ _)); exact K2.out) hb);replace HB := Aside0.mk (qr (by repeat (first | (with_reducible first | exact HB.out | apply q8 | apply q9 | apply qb) | exact HB.out)) hb)
 (try clear hb)
 (try clear a0)
 (try clear hk)
 (try clear hi)
 refine hK.out _ _ ⟨(qa K1.out 0).trans rfl, (qa K1.out 1).trans rfl, (qa K1.out 2).trans rfl, (qa K1.out 3).trans rfl, (qa K1.out 4).trans rfl, (qa K2.out 0).trans rfl, (qa K2.out 1).trans rfl, (qa K2.out 2).trans rfl, (qa K2.out 3).trans rfl⟩ (fun hHeld => ?_);clear hK K;refine xA (a' := ?_) ?_ ?_;rotate_left
 · show Act.put _ (some 91) _ = _
   simp only [Act.put, List.setIfInBounds_toArray, List.set_cons_zero, List.set_cons_succ, qH, qK]
   rfl
 refine zf (i := 10) (N := some 92) (v := ?_) (a' := ?_) #[true, true, true, true, true, true, true, true, true, true, true, false] rfl rfl (zd HT_.out (by kernel_rfl)) (fun _ _ _ h => h) (Or.inl ⟨by rfl, ?_⟩) ?_ ?_;rotate_left
 · intro w'
   go_simp
   with_reducible rfl
 rotate_left
 · simp only [Act.put, List.setIfInBounds_toArray, List.set_cons_zero, List.set_cons_succ, qH, qK]
   rfl
 refine zf (i := 11) (N := some 2) (v := ?_) (a' := ?_) #[true, true, true, true, true, true, true, true, true, true, true, true] rfl rfl (zd HT_.out (by kernel_rfl)) (fun _ _ _ h => h) (Or.inl ⟨by rfl, ?_⟩) ?_ ?_;rotate_left
 · intro w'
   go_simp
   with_reducible rfl
 rotate_left
 · simp only [Act.put, List.setIfInBounds_toArray, List.set_cons_zero, List.set_cons_succ, qH, qK]
   rfl
 refine done_ (done_of HT_.out (by kernel_rfl)) ?_
 try go_wp2
 go_ret
 rw [HN.out]
 exact ⟨rfl, by repeat (first | (with_reducible first | exact HB.out | apply q8 | apply q9 | apply qb) | exact HB.out)⟩
theorem show_step (op f1 f2 : Int) (f3 : ByteArray) (ks : List Tr) (hg : gdX ⟨op, f1, f2, f3⟩ ks.length = true) (hK : xF ks) (hkg : ∀ t ∈ ks, gdX t.f0 t.f1.length = true) (hn : op = 8 → zI (kid ks 0).f0.f0 = true → xF (kid ks 0).f1) (A : Option Addr) (c : Nat) (w : World) (hC : Kd.C k130 w A ks.length ks) (hc : ks.length ≤ c) :
 vL 72 #[.agg #[.int .i64 op, .int .i64 f1, .int .i64 f2, .string f3, .slice A ks.length c]] w (zb [] ⟨op, f1, f2, f3⟩ ks (shws ks)) := by
 obtain ⟨hok, hh, ht⟩ := (vD _ _).1 hg;have hp : 1 ≤ op := vJ ht;have hl : op ≤ 29 := takes_le ht;have htn := xQ ht
 dsimp only at htn
 have hq := hK.sized
 have hlen : ∀ i, i < ks.length → (opn ⟨op, f1, f2, f3⟩ ks (shws ks) i).length ≤ 140737488355328 := fun i hi => by
  have := opn_len (x := ⟨op, f1, f2, f3⟩) (ks := ks) (i := i) hi
  omega
 have hP := parts_of op f1 f2 f3 ks hK hp hl A c w hC hc
 by_cases h6 : op ≤ 6
 · have hN : zb [] ⟨op, f1, f2, f3⟩ ks (shws ks) = leafL op f2 f3.data.toList := by unfold zb; exact if_pos h6
   rw [hN]
   exact show_leaf op f1 f2 f3 ks ⟨hp, h6⟩ hok hh A c w
 by_cases h7 : op = 7
 · subst h7
   have h0 : 0 < ks.length := by have := htn.2.1 (.inl rfl); omega
   exact show_neg f1 f2 f3 ks h0 (by rw [vd ks 0 h0]; exact hkg _ (List.getElem_mem _)) A c w hP (hlen 0 h0)
 by_cases h8 : op = 8
 · subst h8
   have h0 : 0 < ks.length := by have := htn.2.1 (.inr (.inl rfl)); omega
   by_cases hm : zI (kid ks 0).f0.f0 = true
   · have hkid := hkg ks[0] (List.getElem_mem _)
     obtain ⟨_, _, ab⟩ := (vD _ _).1 hkid;rw [← vd ks 0 h0] at ab
     exact show_nots f1 f2 f3 ks h0 hm ab (hn rfl hm) A c w hC hc
   · exact show_one 8 f1 f2 f3 ks (.inl ⟨rfl, by simpa using hm⟩) h0 A c w hC hc hP (hlen 0 h0)
 by_cases h9 : op = 9 ∨ op = 10
 · have h0 : 0 < ks.length := by have := htn.2.1 (by omega); omega
   exact show_one op f1 f2 f3 ks (.inr h9) h0 A c w hC hc hP (hlen 0 h0)
 by_cases hm : 25 ≤ op ∧ op ≤ 27
 · exact show_mat op f1 f2 f3 ks (by omega) ht hK A c w hC hc
 by_cases ae : op = 28
 · subst ae
   have := htn.2.2.2.2.2 rfl
   exact show_case f1 f2 f3 ks this.1 this.2 hK A c w hC hc
 by_cases af : op = 29
 · subst af
   exact show_call f1 f2 f3 ks hK hok.2.2.2.2 A c w hC hc
 · have h1 : 1 < ks.length := by have := htn.2.2.1 (by omega); omega
   exact show_dyad op f1 f2 f3 ks (by omega) (by omega) h1 hK A c w hC hc (hlen 0 (by omega)) (hlen 1 h1)
end
mutual
def gdT : Tr → Bool
 | ⟨x, ks⟩ => gdX x ks.length && gdTs ks
def gdTs : List Tr → Bool
 | [] => true
 | t :: ts => gdT t && gdTs ts
end
theorem gdTs_mem : ∀ {ks : List Tr}, gdTs ks = true → ∀ t ∈ ks, gdT t = true
 | [], _, t, h => by cases h
 | a :: ks, h, t, ht => by
  simp only [gdTs, Bool.and_eq_true] at h
  rcases List.mem_cons.1 ht with rfl | ht
  · exact h.1
  · exact gdTs_mem h.2 t ht
theorem gdT_iff (x : Nd) (ks : List Tr) : gdT ⟨x, ks⟩ = true ↔ gdX x ks.length = true ∧ gdTs ks = true := by
 simp only [gdT, Bool.and_eq_true]
theorem wtTs_mem : ∀ {ks : List Tr}, ∀ t ∈ ks, wtT t ≤ wtTs ks
 | [], t, h => by cases h
 | a :: ks, t, ht => by
  rcases List.mem_cons.1 ht with rfl | ht
  · simp only [wtTs]; omega
  · have := wtTs_mem (ks := ks) t ht
    simp only [wtTs]; omega
def showN (n : Nat) (op f1 f2 : Int) (f3 : ByteArray) (ks : List Tr) : Option ByteArray :=
 if gdT ⟨⟨op, f1, f2, f3⟩, ks⟩ = true ∧ wtT ⟨⟨op, f1, f2, f3⟩, ks⟩ ≤ n then some (str (shw ⟨⟨op, f1, f2, f3⟩, ks⟩).1) else none
theorem kids_okay (n : Nat) (hn : n ≤ 140737488355328) (I : Inhabited vT) (hI : I.default.S = showN n) (x : Nd) (ks : List Tr) (hg : gdT ⟨x, ks⟩ = true) (hw : wtT ⟨x, ks⟩ ≤ n + 1) : xF ks := by
 obtain ⟨h1, h2⟩ := (gdT_iff x ks).1 hg;obtain ⟨_, _, ht⟩ := (vD _ _).1 h1;have hnum := (xQ ht).1
 have hwt : wtTs ks + 70 ≤ n + 1 := by
  have : wtT ⟨x, ks⟩ = wt x + wtTs ks := by simp only [wtT]
  rw [this] at hw;unfold wt at hw
  omega
 refine ⟨fun t htm => ?_, by omega, Nat.le_trans (shws_tot ks) (by omega)⟩;have hgt := gdTs_mem h2 t htm;have hwm := wtTs_mem t htm;obtain ⟨⟨op, f1, f2, f3⟩, kk⟩ := t;obtain ⟨_, _, aa⟩ := (vD _ _).1 ((gdT_iff _ _).1 hgt).1;refine ⟨vJ aa, takes_le aa, fun h8 => ?_, ?_⟩
 · have := (xQ aa).2.1 (.inr (.inl h8))
   intro h0;rw [show kk = [] from h0] at this
   simp at this
 · have hle := Nat.le_trans hwm (show wtTs ks ≤ n by omega)
   rw [hI];unfold showN
   exact if_pos ⟨hgt, hle⟩
theorem show_ok : ∀ (n : Nat), n ≤ 140737488355328 → ∀ (op f1 f2 : Int) (f3 : ByteArray) (A : Option Addr) (c : Nat) (ks : List Tr) (r : ByteArray) (w : World) (hr : Kd.C k130 w A ks.length ks) (hc : ks.length ≤ c) (h : showN n op f1 f2 f3 ks = some r),
 Calls Tryz.prog 72 #[.agg #[.int .i64 op, .int .i64 f1, .int .i64 f2, .string f3, .slice A ks.length c]] w fun e w' => e = .returned (.string r) ∧ Below w.heap.size w w' := by
 intro n
 induction n with
 | zero =>
  intro _ op f1 f2 f3 A c ks r w hr hc h;unfold showN at h;rw [if_neg] at h
  · cases h
  · rintro ⟨_, h2⟩
    have : wtT ⟨⟨op, f1, f2, f3⟩, ks⟩ = wt ⟨op, f1, f2, f3⟩ + wtTs ks := by simp only [wtT]
    rw [this] at h2;unfold wt at h2
    omega
 | succ n ih =>
  intro hn op f1 f2 f3 A c ks r w hr hc h;unfold showN at h
  by_cases hb : gdT ⟨⟨op, f1, f2, f3⟩, ks⟩ = true ∧ wtT ⟨⟨op, f1, f2, f3⟩, ks⟩ ≤ n + 1
  · rw [if_pos hb] at h
    obtain ⟨hg, hw⟩ := hb
    let I : Inhabited vT := ⟨⟨showN n, ih (by omega)⟩⟩
    obtain ⟨h1, h2⟩ := (gdT_iff _ _).1 hg
    have hkg : ∀ t ∈ ks, gdX t.f0 t.f1.length = true := fun t ht => by
     have := gdTs_mem h2 t ht;obtain ⟨x, kk⟩ := t
     exact ((gdT_iff x kk).1 this).1
    have hK := kids_okay n (by omega) I rfl ⟨op, f1, f2, f3⟩ ks hg hw
    have hN : op = 8 → zI (kid ks 0).f0.f0 = true → xF (kid ks 0).f1 := by
     intro h8 _;obtain ⟨_, _, ht⟩ := (vD _ _).1 h1;have hl := (xQ ht).2.1 (.inr (.inl h8))
     have hm : kid ks 0 ∈ ks := by rw [vd ks 0 (by omega)]; exact List.getElem_mem _
     have ab := gdTs_mem h2 _ hm;have ae := wtTs_mem _ hm
     have hwt : wtT ⟨⟨op, f1, f2, f3⟩, ks⟩ = wt ⟨op, f1, f2, f3⟩ + wtTs ks := by simp only [wtT]
     generalize kid ks 0 = t at *;obtain ⟨x, kk⟩ := t
     exact kids_okay n (by omega) I rfl x kk ab (by omega)
    injection h with h
    subst h
    exact show_step op f1 f2 f3 ks h1 hK hkg hN A c w hr hc
  · rw [if_neg hb] at h
    cases h
def xb.f (aa : Int) (ab : Int) (ac : Int) (ae : ByteArray) (af : List S130) : Option ByteArray := showN 140737488355328 aa ab ac ae af
theorem xb.calls (ab : Int) (ac : Int) (ae : Int) (af : ByteArray) (ag : Option Addr) (ah : Nat) (aa : List S130) (r : ByteArray) (w : World) (ai : Kd.C k130 w ag aa.length aa) (aj : aa.length ≤ ah) (h : xb.f ab ac ae af aa = some r) :
 Calls Tryz.prog 72 #[.agg #[.int .i64 ab, .int .i64 ac, .int .i64 ae, .string af, .slice ag aa.length ah]] w fun e w' => e = .returned (.string r) ∧ Below w.heap.size w w' :=
 show_ok 140737488355328 (Nat.le_refl _) ab ac ae af ag ah aa r w ai aj h
end Go.Proofs.YtfmgbgkcmmpcfaaGreatDoor.PTk

