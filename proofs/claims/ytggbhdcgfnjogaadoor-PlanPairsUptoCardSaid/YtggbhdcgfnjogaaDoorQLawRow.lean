import Derived.Test.YtggbhdcgfnjogaaDoorQLawRead
set_option linter.unusedVariables false
namespace Go.Proofs.YtggbhdcgfnjogaaDoor.PlanLaw
open Go.RowKit Go.Proofs.YtggbhdcgfnjogaaDoor.PPl Go.Proofs.YtggbhdcgfnjogaaDoorW.PrintWords Go.Proofs.YtggbhdcgfnjogaaDoorW.PrintLast Go.Proofs.YtggbhdcgfnjogaaDoorW.PrintMore
theorem uv_ok (s : ByteArray) (p n : Nat) (hn : Stops s p n) (hp : p ≤ s.size) : (uvAns s p n).2.2 = 0 → ∃ q : Nat, (uvAns s p n).2.1 = (q : Int) ∧ p < q ∧ q ≤ s.size ∧ 0 ≤ (uvAns s p n).1 ∧ (uvAns s p n).1 < 18446744073709551616 := by
 have hsz : p + n ≤ s.size := by
  cases n with
  | zero => omega
  | succ m => have := (hn.more m (by omega)).1; omega
 have hnle := hn.le
 unfold uvAns
 by_cases c1 : n < 10 ∧ p + n = s.size
 · rw [if_pos c1]; intro h; simp at h
 rw [if_neg c1]
 by_cases c2 : n = 10 ∨ (n = 9 ∧ 1 < bt s ((p + n : Nat) : Int))
 · rw [if_pos c2]; intro h; simp at h
 rw [if_neg c2]
 by_cases c3 : 0 < n ∧ bt s ((p + n : Nat) : Int) = 0
 · rw [if_pos c3]; intro h; simp at h
 rw [if_neg c3]
 intro _
 refine ⟨p + n + 1, rfl, by omega, by omega, (wv_lt s p (n + 1)).1, ?_⟩
 show wv s p (n + 1) < 18446744073709551616
 by_cases e : n = 9
 · subst e
   have h1 := (wv_lt s p 9).2
   have hb : bt s ((p + 9 : Nat) : Int) ≤ 1 := by omega
   have h0 := bt_range s ((p + 9 : Nat) : Int)
   rw [wv]
   have hm : (bt s ((p + 9 : Nat) : Int) % 128) * 128 ^ 9 ≤ 1 * 128 ^ 9 := Int.mul_le_mul_of_nonneg_right (by omega) (by omega)
   omega
 · have h1 := (wv_lt s p (n + 1)).2
   have h2 : (128 : Int) ^ (n + 1) ≤ 128 ^ 9 := by
    have hi' : n = 0 ∨ n = 1 ∨ n = 2 ∨ n = 3 ∨ n = 4 ∨ n = 5 ∨ n = 6 ∨ n = 7 ∨ n = 8 := by omega
    rcases hi' with rfl | rfl | rfl | rfl | rfl | rfl | rfl | rfl | rfl <;> decide
   omega
def unzig (u : Int) : Int := if u % 2 = 0 then u / 2 else -1 - u / 2
def svAns (s : ByteArray) (p n : Nat) : Int × Int × Int := if (uvAns s p n).2.2 = 0 then (unzig (uvAns s p n).1, (uvAns s p n).2.1, 0) else (0, (p : Int), (uvAns s p n).2.2)
theorem i64_xor_0 (x : Nat) (hx : x < 9223372036854775808) : Go.bits .xor .i64 (x : Int) 0 = (x : Int) := by
 show IntKind.i64.wrap ((BitVec.ofInt 64 (x : Int) ^^^ BitVec.ofInt 64 0).toNat : Int) = _
 have h1 : (BitVec.ofInt 64 0).toNat = 0 := by decide
 have h2 : (BitVec.ofInt 64 (x : Int)).toNat = x := by
  rw [BitVec.ofInt_natCast, BitVec.toNat_ofNat]; exact Nat.mod_eq_of_lt (by omega)
 rw [BitVec.toNat_xor, h1, h2, Nat.xor_zero, IntKind.wrap_i64]
 omega
theorem i64_xor_m1 (x : Nat) (hx : x < 9223372036854775808) : Go.bits .xor .i64 (x : Int) (-1) = -(x : Int) - 1 := by
 rw [← Lib.i64_not x hx]
 simp [Go.bits, BitVec.xor_comm]
theorem prog_sv (s : ByteArray) (hs : s.size ≤ 1000000000) (p n : Nat) (hn : Stops s p n) (hp : p ≤ s.size) : Ev (fun k => bits_ReadSvarint.f k s (p : Int)) (svAns s p n) := by
 unfold bits_ReadSvarint.f svAns
 refine Ev.bind (prog_uv s hs p n hn hp) (Ev.congr (fun k => ?_) (Ev.now _))
 by_cases h : (uvAns s p n).2.2 = 0
 · rw [if_pos h, if_pos h]
   obtain ⟨q, _, _, _, h0, h1⟩ := uv_ok s p n hn hp h
   generalize (uvAns s p n).1 = u at *
   have e : Go.bits .xor .i64 (wrap64 (u / 2)) (wrap64 (-(wrap64 (Go.bits .and .u64 u 1)))) = unzig u := by
    rw [Lib.u64_and1 u h0 h1, wrap_ok (i := u / 2) (by omega) (by omega)]
    obtain ⟨m, hm⟩ : ∃ m : Nat, u / 2 = m := ⟨(u / 2).toNat, by omega⟩
    unfold unzig
    by_cases h2 : u % 2 = 0
    · rw [if_pos h2, h2, hm, show wrap64 (-(wrap64 0)) = 0 by simp [wrap64], i64_xor_0 m (by omega)]
    · have e1 : u % 2 = 1 := by omega
      rw [if_neg h2, e1, hm, show wrap64 (-(wrap64 1)) = -1 by simp [wrap64], i64_xor_m1 m (by omega)]
      omega
   rw [e]
 · rw [if_neg h, if_neg h]
theorem ref_sv (s : ByteArray) (hs : s.size ≤ 1000000000) (p n : Nat) (hn : Stops s p n) (hp : p ≤ s.size) : Ev (fun k => strataref01_ReadSvarint.f k s (p : Int)) (svAns s p n) := by
 unfold strataref01_ReadSvarint.f svAns
 refine Ev.bind (ref_uv s hs p n hn hp) (Ev.congr (fun k => ?_) (Ev.now _))
 by_cases h : (uvAns s p n).2.2 = 0
 · rw [if_pos h, if_pos h]
   obtain ⟨q, _, _, _, h0, h1⟩ := uv_ok s p n hn hp h
   generalize (uvAns s p n).1 = u at *
   have hw : IntKind.u64.wrap (u.tdiv 2) = u / 2 := by
    rw [Int.tdiv_eq_ediv_of_nonneg h0]
    simp only [IntKind.wrap, IntKind.signed, IntKind.bits]; simp; omega
   rw [hw, Int.tmod_eq_emod_of_nonneg h0, wrap_ok (i := u / 2) (by omega) (by omega)]
   unfold unzig
   by_cases h2 : u % 2 = 0
   · rw [if_pos h2, if_pos h2]
   · rw [if_neg h2, if_neg h2, wrap_ok (by omega) (by omega)]
 · rw [if_neg h, if_neg h]
def txAns (s : ByteArray) (p n : Nat) : ByteArray × Int × Int :=
 if (uvAns s p n).2.2 = 0 then (if (uvAns s p n).1 > 4096 then (⟨#[]⟩, (p : Int), 4) else if (uvAns s p n).2.1 + (uvAns s p n).1 > (s.size : Int) then (⟨#[]⟩, (p : Int), 11) else (s.extract (uvAns s p n).2.1.toNat ((uvAns s p n).2.1 + (uvAns s p n).1).toNat, (uvAns s p n).2.1 + (uvAns s p n).1, 0)) else (⟨#[]⟩, (p : Int), (uvAns s p n).2.2)
theorem prog_tx (s : ByteArray) (hs : s.size ≤ 1000000000) (p n : Nat) (hn : Stops s p n) (hp : p ≤ s.size) : Ev (fun k => bits_bounded.f k s (p : Int) 4096) (txAns s p n) := by
 unfold bits_bounded.f txAns
 refine Ev.bind (prog_uv s hs p n hn hp) (Ev.congr (fun k => ?_) (Ev.now _))
 by_cases h : (uvAns s p n).2.2 = 0
 · rw [if_pos h, if_pos h]
   obtain ⟨q, hq, _, hqs, h0, h1⟩ := uv_ok s p n hn hp h
   rw [hq]
   generalize (uvAns s p n).1 = u at *
   by_cases hb : u > 4096
   · rw [if_pos hb, if_pos hb]
   rw [if_neg hb, if_neg hb]
   have ew : IntKind.u64.wrap (wrap64 ((s.size : Int) - (q : Int))) = (s.size : Int) - q := by
    rw [wrap_ok (by omega) (by omega)]
    simp only [IntKind.wrap, IntKind.signed, IntKind.bits]; simp; omega
   rw [ew, wrap_ok (i := u) (by omega) (by omega), wrap_ok (i := (q : Int) + u) (by omega) (by omega)]
   by_cases hc : (q : Int) + u > s.size
   · rw [if_pos hc, if_pos (by omega)]
   · rw [if_neg hc, if_neg (by omega), if_pos (by omega), if_pos (by omega), if_pos (by omega)]
 · rw [if_neg h, if_neg h]
theorem ref_tx (s : ByteArray) (hs : s.size ≤ 1000000000) (p n : Nat) (hn : Stops s p n) (hp : p ≤ s.size) : Ev (fun k => strataref01_readText.f k s (p : Int) 4096) (txAns s p n) := by
 unfold strataref01_readText.f txAns
 refine Ev.bind (ref_uv s hs p n hn hp) (Ev.congr (fun k => ?_) (Ev.now _))
 by_cases h : (uvAns s p n).2.2 = 0
 · rw [if_pos h, if_pos h]
   obtain ⟨q, hq, _, hqs, h0, h1⟩ := uv_ok s p n hn hp h
   rw [hq]
   generalize (uvAns s p n).1 = u at *
   by_cases hb : u > 4096
   · rw [if_pos hb, if_pos hb]
   rw [if_neg hb, if_neg hb]
   rw [wrap_ok (i := u) (by omega) (by omega), wrap_ok (i := (q : Int) + u) (by omega) (by omega), wrap_ok (i := (s.size : Int) - (q : Int)) (by omega) (by omega)]
   by_cases hc : (q : Int) + u > s.size
   · rw [if_pos hc, if_pos (by omega)]
   · rw [if_neg hc, if_neg (by omega), if_pos (by omega), if_pos (by omega), if_pos (by omega)]
 · rw [if_neg h, if_neg h]
def colR (s : ByteArray) (kd : Int) (p n : Nat) : Except Int (S84 × Nat) :=
 if kd = 0 then .ok (z84, p)
 else if kd = 1 then (if p < s.size then (if bt s (p : Int) ≤ 1 then .ok (⟨1, bt s (p : Int), ⟨#[]⟩⟩, p + 1) else .error 14) else .error 11)
 else if kd = 2 then (if (svAns s p n).2.2 = 0 then .ok (⟨2, (svAns s p n).1, ⟨#[]⟩⟩, (svAns s p n).2.1.toNat) else .error (svAns s p n).2.2)
 else (if (txAns s p n).2.2 = 0 then .ok (⟨3, 0, (txAns s p n).1⟩, (txAns s p n).2.1.toNat) else .error (txAns s p n).2.2)
theorem sv_next (s : ByteArray) (p n : Nat) (hn : Stops s p n) (hp : p ≤ s.size) (h : (svAns s p n).2.2 = 0) : ∃ q : Nat, (svAns s p n).2.1 = (q : Int) ∧ q ≤ s.size := by
 unfold svAns at h ⊢
 by_cases hu : (uvAns s p n).2.2 = 0
 · rw [if_pos hu]
   obtain ⟨q, hq, _, hqs, _⟩ := uv_ok s p n hn hp hu
   exact ⟨q, hq, hqs⟩
 · rw [if_neg hu] at h; exact absurd h hu
theorem tx_next (s : ByteArray) (p n : Nat) (hn : Stops s p n) (hp : p ≤ s.size) (h : (txAns s p n).2.2 = 0) : ∃ q : Nat, (txAns s p n).2.1 = (q : Int) ∧ q ≤ s.size := by
 unfold txAns at h ⊢
 by_cases hu : (uvAns s p n).2.2 = 0
 · rw [if_pos hu] at h ⊢
   obtain ⟨q, hq, _, hqs, h0, _⟩ := uv_ok s p n hn hp hu
   rw [hq] at h ⊢
   by_cases hb : (uvAns s p n).1 > 4096
   · rw [if_pos hb] at h; simp at h
   rw [if_neg hb] at h ⊢
   by_cases hc : (q : Int) + (uvAns s p n).1 > s.size
   · rw [if_pos hc] at h; simp at h
   rw [if_neg hc]
   exact ⟨q + (uvAns s p n).1.toNat, by simp; omega, by omega⟩
 · rw [if_neg hu] at h; exact absurd h hu
theorem prog_col (s : ByteArray) (hs : s.size ≤ 1000000000) (kd : Int) (hk : 0 ≤ kd ∧ kd ≤ 3) (p n : Nat) (hn : Stops s p n) (hp : p ≤ s.size) : Ev (fun k => bk k s kd p) (colR s kd p n) := by
 unfold bk colR
 by_cases h0 : kd = 0
 · exact Ev.congr (fun k => by rw [if_pos h0, if_pos h0]) (Ev.now _)
 by_cases h1 : kd = 1
 · refine Ev.congr (fun k => ?_) (Ev.now _)
   rw [if_neg h0, if_neg h0, if_pos h1, if_pos h1]
   split
   · split <;> rfl
   · rfl
 by_cases h2 : kd = 2
 · rw [if_neg h0, if_neg h1, if_pos h2]
   refine Ev.congr (f := fun k => (bits_ReadSvarint.f k s (p : Int)).bind fun r => if r.2.2 = 0 then (if 0 ≤ r.2.1 then some (.ok (⟨2, r.1, ⟨#[]⟩⟩, r.2.1.toNat)) else none) else some (.error r.2.2)) (fun k => by rw [if_neg h0, if_neg h1, if_pos h2]) (Ev.bind (prog_sv s hs p n hn hp) (Ev.congr (fun k => ?_) (Ev.now _)))
   by_cases h : (svAns s p n).2.2 = 0
   · obtain ⟨q, hq, _⟩ := sv_next s p n hn hp h
     rw [if_pos h, if_pos h, hq, if_pos (by omega)]
   · rw [if_neg h, if_neg h]
 · have h3 : kd = 3 := by omega
   rw [if_neg h0, if_neg h1, if_neg h2]
   refine Ev.congr (f := fun k => (bits_bounded.f k s (p : Int) 4096).bind fun r => if r.2.2 = 0 then (if 0 ≤ r.2.1 then some (.ok (⟨3, 0, r.1⟩, r.2.1.toNat)) else none) else some (.error r.2.2)) (fun k => by rw [if_neg h0, if_neg h1, if_neg h2, if_pos h3]) (Ev.bind (prog_tx s hs p n hn hp) (Ev.congr (fun k => ?_) (Ev.now _)))
   by_cases h : (txAns s p n).2.2 = 0
   · obtain ⟨q, hq, _⟩ := tx_next s p n hn hp h
     rw [if_pos h, if_pos h, hq, if_pos (by omega)]
   · rw [if_neg h, if_neg h]
def colOut (p : Nat) (r : Except Int (S84 × Nat)) : Int × Int × ByteArray × Int × Int := match r with
 | .error e => (0, 0, ⟨#[]⟩, (p : Int), e)
 | .ok (x, q) => (x.f0, x.f1, x.f2, (q : Int), 0)
theorem ref_col (s : ByteArray) (hs : s.size ≤ 1000000000) (kd : Int) (hk : 0 ≤ kd ∧ kd ≤ 3) (p n : Nat) (hn : Stops s p n) (hp : p ≤ s.size) : Ev (fun k => strataref01_readColumn.f k s (p : Int) kd) (colOut p (colR s kd p n)) := by
 unfold strataref01_readColumn.f colR
 by_cases h1 : kd = 1
 · refine Ev.congr (fun k => ?_) (Ev.now _)
   have n0 : ¬ kd = 0 := by omega
   rw [if_pos h1, if_neg n0, if_pos h1]
   by_cases hl : p < s.size
   · rw [if_neg (by omega), if_pos (by omega), if_pos (by omega), if_pos hl]
     obtain ⟨b0, b1⟩ := bt_range s (p : Int)
     by_cases hb : bt s (p : Int) ≤ 1
     · rw [if_neg (by omega), if_pos hb, wrap_ok (by omega) (by omega), wrap_ok (by omega) (by omega), h1]
       rfl
     · rw [if_pos (by omega), if_neg hb]
       rfl
   · rw [if_pos (by omega), if_neg hl]
     rfl
 by_cases h2 : kd = 2
 · have n0 : ¬ kd = 0 := by omega
   rw [if_neg n0, if_neg h1, if_pos h2]
   refine Ev.congr (f := fun k => (strataref01_ReadSvarint.f k s (p : Int)).bind fun bt286 => (if bt286.2.2 = 0 then (some (kd, bt286.1, (⟨#[]⟩ : ByteArray), bt286.2.1, 0)) else (some (0, 0, (⟨#[]⟩ : ByteArray), (p : Int), bt286.2.2)))) (fun k => by rw [if_neg h1, if_pos h2]) (Ev.bind (ref_sv s hs p n hn hp) (Ev.congr (fun k => ?_) (Ev.now _)))
   by_cases h : (svAns s p n).2.2 = 0
   · obtain ⟨q, hq, _⟩ := sv_next s p n hn hp h
     rw [if_pos h, if_pos h, hq, h2]
     rfl
   · rw [if_neg h, if_neg h]
     rfl
 by_cases h3 : kd = 3
 · have n0 : ¬ kd = 0 := by omega
   rw [if_neg n0, if_neg h1, if_neg h2]
   refine Ev.congr (f := fun k => (strataref01_readText.f k s (p : Int) 4096).bind fun bt289 => (if bt289.2.2 = 0 then (some (kd, 0, bt289.1, bt289.2.1, 0)) else (some (0, 0, (⟨#[]⟩ : ByteArray), (p : Int), bt289.2.2)))) (fun k => by rw [if_neg h1, if_neg h2, if_pos h3]) (Ev.bind (ref_tx s hs p n hn hp) (Ev.congr (fun k => ?_) (Ev.now _)))
   by_cases h : (txAns s p n).2.2 = 0
   · obtain ⟨q, hq, _⟩ := tx_next s p n hn hp h
     rw [if_pos h, if_pos h, hq, h3]
     rfl
   · rw [if_neg h, if_neg h]
     rfl
 · have h0 : kd = 0 := by omega
   refine Ev.congr (fun k => ?_) (Ev.now _)
   rw [if_neg h1, if_neg h2, if_neg h3, if_pos h0, h0]
   rfl
theorem col_next (s : ByteArray) (kd : Int) (p n : Nat) (hn : Stops s p n) (hp : p ≤ s.size) {x : S84} {q : Nat} (h : colR s kd p n = .ok (x, q)) : q ≤ s.size := by
 unfold colR at h
 by_cases h0 : kd = 0
 · rw [if_pos h0] at h; injection h with h; injection h with _ h; omega
 rw [if_neg h0] at h
 by_cases h1 : kd = 1
 · rw [if_pos h1] at h
   by_cases hl : p < s.size
   · rw [if_pos hl] at h
     by_cases hb : bt s (p : Int) ≤ 1
     · rw [if_pos hb] at h; injection h with h; injection h with _ h; omega
     · rw [if_neg hb] at h; cases h
   · rw [if_neg hl] at h; cases h
 rw [if_neg h1] at h
 by_cases h2 : kd = 2
 · rw [if_pos h2] at h
   by_cases hh : (svAns s p n).2.2 = 0
   · rw [if_pos hh] at h
     obtain ⟨r, hr, hrs⟩ := sv_next s p n hn hp hh
     rw [hr] at h; injection h with h; injection h with _ h; omega
   · rw [if_neg hh] at h; cases h
 rw [if_neg h2] at h
 by_cases hh : (txAns s p n).2.2 = 0
 · rw [if_pos hh] at h
   obtain ⟨r, hr, hrs⟩ := tx_next s p n hn hp hh
   rw [hr] at h; injection h with h; injection h with _ h; omega
 · rw [if_neg hh] at h; cases h
noncomputable def stopOf (s : ByteArray) (p : Nat) : Nat := @dite _ (p ≤ s.size) (Nat.decLe _ _) (fun h => Classical.choose (stops_ex s p h)) (fun _ => 0)
theorem stopOf_is (s : ByteArray) (p : Nat) (h : p ≤ s.size) : Stops s p (stopOf s p) := by
 unfold stopOf
 rw [dif_pos h]
 exact Classical.choose_spec (stops_ex s p h)
noncomputable def allR (s : ByteArray) : List Int → Nat → Except Int (List S84 × Nat)
 | [], p => .ok ([], p)
 | kd :: ks, p => match colR s kd p (stopOf s p) with
  | .error e => .error e
  | .ok (x, q) => match allR s ks q with
   | .error e => .error e
   | .ok (l, q2) => .ok (x :: l, q2)
theorem prog_all (s : ByteArray) (hs : s.size ≤ 1000000000) : ∀ (ks : List Int), (∀ kd ∈ ks, 0 ≤ kd ∧ kd ≤ 3) → ∀ p, p ≤ s.size → Ev (fun k => bkAll k s ks p) (allR s ks p) := by
 intro ks
 induction ks with
 | nil => intro _ p _; exact Ev.congr (fun k => by rw [bkAll, allR]) (Ev.now _)
 | cons kd ks ih =>
  intro hk p hp
  have hn := stopOf_is s p hp
  have hc := prog_col s hs kd (hk kd (by simp)) p _ hn hp
  refine Ev.congr (fun k => by rw [bkAll]) (Ev.bind hc ?_)
  rw [allR]
  cases h : colR s kd p (stopOf s p) with
  | error e => exact Ev.now _
  | ok r =>
   obtain ⟨x, q⟩ := r
   have hq := col_next s kd p _ hn hp h
   refine Ev.bind (ih (fun y hy => hk y (by simp [hy])) q hq) ?_
   cases h2 : allR s ks q with
   | error e => simp only [h2]; exact Ev.now _
   | ok r2 => obtain ⟨l, q2⟩ := r2; simp only [h2]; exact Ev.now _
def rowOut (r : Except Int (List S84)) : List S84 × Int := match r with
 | .error e => ([], e)
 | .ok l => (l, 0)
theorem rowOut_is (r : Except Int (List S84)) : (rdL r, rdE r) = rowOut r := by cases r <;> rfl
theorem rdAdd_cons (done : List S84) (x : S84) (r : Except Int (List S84 × Nat)) : rdAdd done (match r with | .error e => .error e | .ok (l, q2) => .ok (x :: l, q2)) = rdAdd (done ++ [x]) r := by
 rcases r with e | ⟨l, q⟩
 · rfl
 · simp [rdAdd]
theorem read_l2 (s : ByteArray) (hs : s.size ≤ 1000000000) (c : Nat) (K : List Int) (hc : c ≤ K.length) (hK : K.length ≤ 100) (hk : ∀ kd ∈ K, 0 ≤ kd ∧ kd ≤ 3) :
 ∀ (d i p : Nat) (done : List S84), i + d = c → p ≤ s.size → done.length = i → (∀ e, rdEnd s (rdAdd done (allR s ((K.take c).drop i) p)) = .error e → e ≠ 0) →
  Ev (fun k => strataref01_ReadRow.l2 k s (c : Int) K done (p : Int) (i : Int)) (rowOut (rdEnd s (rdAdd done (allR s ((K.take c).drop i) p)))) := by
 intro d
 induction d with
 | zero =>
  intro i p done hi hp hdn _
  rw [List.drop_of_length_le (by rw [List.length_take]; omega), allR]
  simp only [rdAdd, rdEnd, List.append_nil]
  refine Ev.step (f := fun _ => some (rowOut (if p < s.size then .error 16 else .ok done))) (fun k => ?_) (Ev.now _)
  simp only [strataref01_ReadRow.l2]
  rw [if_neg (by omega)]
  by_cases h : p < s.size
  · rw [if_pos (by omega), if_pos h]; rfl
  · rw [if_neg (by omega), if_neg h]; rfl
 | succ d ih =>
  intro i p done hi hp hdn he
  have hlt : i < (K.take c).length := by rw [List.length_take]; omega
  have hlt2 : i < K.length := by omega
  have hn := stopOf_is s p hp
  have hkd := hk _ (List.getElem_mem hlt2)
  have hget : (K.take c)[i] = K[i] := List.getElem_take
  rw [List.drop_eq_getElem_cons hlt, hget, allR] at he ⊢
  have hcol := ref_col s hs K[i] hkd p _ hn hp
  refine Ev.step (f := fun k => (strataref01_readColumn.f k s (p : Int) K[i]).bind fun bt300 => (if bt300.2.2.2.2 = 0 then (if done.length < 4398046511104 then (strataref01_ReadRow.l2 k s (c : Int) K (done ++ [(⟨bt300.1, bt300.2.1, bt300.2.2.1⟩ : S84)]) bt300.2.2.2.1 (wrap64 ((i : Int) + 1))) else (none)) else (some (([] : List (S84)), bt300.2.2.2.2)))) (fun k => ?_) (Ev.bind hcol ?_)
  · simp only [strataref01_ReadRow.l2]
    rw [if_pos (by omega), if_pos (by omega), if_pos (by omega), rd_at K i hlt2]
  · cases h : colR s K[i] p (stopOf s p) with
    | error e =>
     rw [h] at he
     have hne := he e rfl
     refine Ev.congr (fun k => ?_) (Ev.now _)
     rw [if_neg (show ¬ (colOut p (.error e)).2.2.2.2 = 0 from hne)]
     rfl
    | ok r =>
     obtain ⟨x, q⟩ := r
     rw [h] at he
     simp only [rdAdd_cons] at he ⊢
     have hq := col_next s K[i] p _ hn hp h
     have hih := ih (i + 1) q (done ++ [x]) (by omega) hq (by simp; omega) he
     refine Ev.congr (fun k => ?_) hih
     rw [if_pos (show (colOut p (.ok (x, q))).2.2.2.2 = 0 from rfl), if_pos (by omega), wrap_ok (by omega) (by omega)]
     rfl
theorem all_err (s : ByteArray) : ∀ (ks : List Int) (p : Nat) (e : Int), allR s ks p = .error e → e ≠ 0 := by
 intro ks
 induction ks with
 | nil => intro p e h; rw [allR] at h; cases h
 | cons kd ks ih =>
  intro p e h
  rw [allR] at h
  cases hc : colR s kd p (stopOf s p) with
  | error e' =>
   rw [hc] at h
   injection h with h
   subst h
   unfold colR at hc
   split at hc
   · cases hc
   split at hc
   · split at hc
     · split at hc
       · cases hc
       · injection hc with hc; omega
     · injection hc with hc; omega
   split at hc
   · split at hc
     · cases hc
     · rename_i hz; injection hc with hc; rw [← hc]; exact hz
   · split at hc
     · cases hc
     · rename_i hz; injection hc with hc; rw [← hc]; exact hz
  | ok r =>
   obtain ⟨x, q⟩ := r
   rw [hc] at h
   simp only at h
   cases h2 : allR s ks q with
   | error e' => rw [h2] at h; injection h with h; subst h; exact ih q e' h2
   | ok r2 => rw [h2] at h; cases h
theorem end_err (s : ByteArray) (done : List S84) (ks : List Int) (p : Nat) (e : Int) (h : rdEnd s (rdAdd done (allR s ks p)) = .error e) : e ≠ 0 := by
 cases h2 : allR s ks p with
 | error e' => rw [h2] at h; injection h with h; subst h; exact all_err s ks p e' h2
 | ok r =>
  obtain ⟨l, q⟩ := r
  rw [h2] at h
  simp only [rdAdd, rdEnd] at h
  split at h
  · injection h with h; omega
  · cases h
theorem unp_is (b : Int) (h0 : 0 ≤ b) (h1 : b ≤ 255) : unp b = [b % 4, b / 4 % 4, b / 16 % 4, b / 64] := by
 have h : ∀ b : Fin 256, Go.bits .and .u8 (b.val : Int) 3 = (b.val : Int) % 4 := by decide +kernel
 have g : ∀ x : Int, 0 ≤ x → x < 256 → Go.bits .and .u8 x 3 = x % 4 := by
  intro x a c
  obtain ⟨n, rfl⟩ := Int.eq_ofNat_of_zero_le a
  exact h ⟨n, by omega⟩
 unfold unp
 rw [g b h0 (by omega), g (b / 4) (by omega) (by omega), g (b / 16) (by omega) (by omega)]
theorem kinds_bd (s : ByteArray) (n : Nat) : ∀ kd ∈ kindsOf s n, 0 ≤ kd ∧ kd ≤ 3 := by
 intro kd h
 unfold kindsOf at h
 obtain ⟨j, _, hj⟩ := List.mem_flatMap.1 h
 obtain ⟨b0, b1⟩ := bt_range s ((1 + j : Nat) : Int)
 rw [unp_is _ b0 b1] at hj
 simp only [List.mem_cons, List.not_mem_nil, or_false] at hj
 omega
noncomputable def readR (s : ByteArray) : Except Int (List S84) :=
 if s.size = 0 then .error 11
 else if 16 < cOf s then .error 18
 else if s.size < 1 + nOf s then .error 11
 else if ((kindsOf s (nOf s)).drop (cOf s)).all (fun x => decide (x = 0)) = false then .error 14
 else rdEnd s (allR s ((kindsOf s (nOf s)).take (cOf s)) (1 + nOf s))
theorem cOf_is (s : ByteArray) : (cOf s : Int) = bt s 0 := by
 unfold cOf
 obtain ⟨b0, b1⟩ := bt_range s ((0 : Nat) : Int)
 rw [Int.toNat_of_nonneg b0]
 rfl
theorem prog_read (s : ByteArray) (hs : s.size ≤ 1000000000) : Ev (fun k => bits_ReadRow.f k s) (rowOut (readR s)) := by
 have key : Ev (fun k => rdRow k s) (readR s) := by
  unfold rdRow readR
  by_cases h0 : s.size = 0
  · exact Ev.congr (fun k => by rw [if_pos h0, if_pos h0]) (Ev.now _)
  by_cases h1 : 16 < cOf s
  · exact Ev.congr (fun k => by rw [if_neg h0, if_pos h1, if_neg h0, if_pos h1]) (Ev.now _)
  by_cases h2 : s.size < 1 + nOf s
  · exact Ev.congr (fun k => by rw [if_neg h0, if_neg h1, if_pos h2, if_neg h0, if_neg h1, if_pos h2]) (Ev.now _)
  by_cases h3 : ((kindsOf s (nOf s)).drop (cOf s)).all (fun x => decide (x = 0)) = false
  · exact Ev.congr (fun k => by rw [if_neg h0, if_neg h1, if_neg h2, if_pos h3, if_neg h0, if_neg h1, if_neg h2, if_pos h3]) (Ev.now _)
  · rw [if_neg h0, if_neg h1, if_neg h2, if_neg h3]
    have ha := prog_all s hs ((kindsOf s (nOf s)).take (cOf s)) (fun kd hm => kinds_bd s _ kd (List.mem_of_mem_take hm)) (1 + nOf s) (by omega)
    refine Ev.congr (f := fun k => (bkAll k s ((kindsOf s (nOf s)).take (cOf s)) (1 + nOf s)).bind fun r => some (rdEnd s r)) (fun k => ?_) (Ev.bind ha (Ev.now _))
    rw [if_neg h0, if_neg h1, if_neg h2, if_neg h3]
    cases bkAll k s ((kindsOf s (nOf s)).take (cOf s)) (1 + nOf s) <;> rfl
 refine Ev.congr (f := fun k => (rdRow k s).bind fun R => some (rowOut R)) (fun k => ?_) (Ev.bind key (Ev.now _))
 unfold bits_ReadRow.f
 rw [if_pos hs]
 cases rdRow k s with
 | none => rfl
 | some R => simp only [Option.map_some, Option.bind_some, rowOut_is]
theorem read_l1 (s : ByteArray) (c n : Nat) (K : List Int) (hK : K.length ≤ 100) (r : List S84 × Int) (hr : Ev (fun k => strataref01_ReadRow.l2 k s (c : Int) K ([] : List S84) (wrap64 (1 + (n : Int))) 0) r) :
 ∀ (d i : Nat), i + d = K.length → Ev (fun k => strataref01_ReadRow.l1 k s (c : Int) (n : Int) K (i : Int)) (if (K.drop i).all (fun x => decide (x = 0)) = false then ([], 14) else r) := by
 intro d
 induction d with
 | zero =>
  intro i hi
  rw [List.drop_of_length_le (by omega), if_neg (by simp)]
  refine Ev.step (fun k => ?_) hr
  simp only [strataref01_ReadRow.l1]
  rw [if_neg (by omega)]
 | succ d ih =>
  intro i hi
  have hlt : i < K.length := by omega
  rw [List.drop_eq_getElem_cons hlt, List.all_cons]
  by_cases h : K[i] = 0
  · rw [decide_eq_true h, Bool.true_and]
    refine Ev.step (fun k => ?_) (ih (i + 1) (by omega))
    simp only [strataref01_ReadRow.l1]
    rw [if_pos (by omega), if_pos (by omega), rd_at K i hlt, if_pos h, wrap_ok (by omega) (by omega)]
    rfl
  · rw [decide_eq_false h, Bool.false_and, if_pos rfl]
    refine Ev.step (f := fun _ => some ([], 14)) (fun k => ?_) (Ev.now _)
    simp only [strataref01_ReadRow.l1]
    rw [if_pos (by omega), if_pos (by omega), rd_at K i hlt, if_neg h]
theorem read_l0 (s : ByteArray) (hs : s.size ≤ 1000000000) (c n : Nat) (hn : n ≤ 4) (hsz : 1 + n ≤ s.size) (r : List S84 × Int) (hr : Ev (fun k => strataref01_ReadRow.l1 k s (c : Int) (n : Int) (kindsOf s n) (c : Int)) r) :
 ∀ (d i : Nat), i + d = n → Ev (fun k => strataref01_ReadRow.l0 k s (c : Int) (n : Int) (kindsOf s i) (i : Int)) r := by
 intro d
 induction d with
 | zero =>
  intro i hi
  obtain rfl : i = n := by omega
  refine Ev.step (fun k => ?_) hr
  simp only [strataref01_ReadRow.l0]
  rw [if_neg (by omega)]
 | succ d ih =>
  intro i hi
  have hkl := kindsOf_length s i
  refine Ev.step (fun k => ?_) (ih (i + 1) (by omega))
  have ew : wrap64 (1 + (i : Int)) = ((1 + i : Nat) : Int) := by rw [wrap_ok (by omega) (by omega)]; rfl
  obtain ⟨b0, b1⟩ := bt_range s ((1 + i : Nat) : Int)
  simp only [strataref01_ReadRow.l0]
  rw [if_pos (by omega), ew, if_pos (by omega), if_pos (by omega), kindsOf_succ, unp_is _ b0 b1]
  generalize bt s ((1 + i : Nat) : Int) = b at *
  rw [wrap_ok (i := b) (by omega) (by omega), Int.tdiv_eq_ediv_of_nonneg b0, Int.tdiv_eq_ediv_of_nonneg b0, Int.tdiv_eq_ediv_of_nonneg b0, wrap_ok (i := b / 4) (by omega) (by omega), wrap_ok (i := b / 16) (by omega) (by omega), wrap_ok (i := b / 64) (by omega) (by omega),
   Int.tmod_eq_emod_of_nonneg b0, Int.tmod_eq_emod_of_nonneg (a := b / 4) (by omega), Int.tmod_eq_emod_of_nonneg (a := b / 16) (by omega)]
  simp only [Option.bind_some]
  rw [if_pos (by rw [hkl]; simp; omega), wrap_ok (by omega) (by omega)]
  rfl
theorem ref_read (s : ByteArray) (hs : s.size ≤ 1000000000) : Ev (fun k => strataref01_ReadRow.f k s) (rowOut (readR s)) := by
 have hc := cOf_is s
 obtain ⟨b0, b1⟩ := bt_range s 0
 unfold readR
 by_cases h0 : s.size = 0
 · rw [if_pos h0]
   refine Ev.congr (fun k => ?_) (Ev.now _)
   unfold strataref01_ReadRow.f
   rw [if_pos ((empty_iff s).2 h0)]
   rfl
 rw [if_neg h0]
 have hpre : ∀ k, strataref01_ReadRow.f k s = (if (cOf s : Int) > 16 then (some (([] : List (S84)), 18)) else (if (s.size : Int) < 1 + (nOf s : Int) then (some (([] : List (S84)), 11)) else (strataref01_ReadRow.l0 k s (cOf s : Int) (nOf s : Int) ([] : List Int) 0))) := by
  intro k
  unfold strataref01_ReadRow.f
  have en : wrap64 (Int.tdiv (wrap64 ((cOf s : Int) + 3)) 4) = (nOf s : Int) := by
   rw [wrap_ok (i := (cOf s : Int) + 3) (by omega) (by omega), Int.tdiv_eq_ediv_of_nonneg (by omega), wrap_ok (by omega) (by omega)]
   unfold nOf
   omega
  rw [if_neg (fun e => h0 ((empty_iff s).1 e)), if_pos (by omega), wrap_ok (i := bt s 0) (by omega) (by omega), ← hc, en, wrap_ok (i := 1 + (nOf s : Int)) (by unfold nOf; omega) (by unfold nOf; omega)]
 by_cases h1 : 16 < cOf s
 · rw [if_pos h1]
   refine Ev.congr (fun k => ?_) (Ev.now _)
   rw [hpre, if_pos (by omega)]
   rfl
 rw [if_neg h1]
 by_cases h2 : s.size < 1 + nOf s
 · rw [if_pos h2]
   refine Ev.congr (fun k => ?_) (Ev.now _)
   rw [hpre, if_neg (by omega), if_pos (by omega)]
   rfl
 rw [if_neg h2]
 have hn4 : nOf s ≤ 4 := by unfold nOf; omega
 have hkl := kindsOf_length s (nOf s)
 have hcK : cOf s ≤ (kindsOf s (nOf s)).length := by rw [hkl]; unfold nOf; omega
 have l2 := read_l2 s hs (cOf s) (kindsOf s (nOf s)) hcK (by omega) (kinds_bd s _) (cOf s) 0 (1 + nOf s) [] (by omega) (by omega) rfl (fun e he => end_err s _ _ _ e he)
 rw [List.drop_zero, rdAdd_nil] at l2
 have l1 := read_l1 s (cOf s) (nOf s) (kindsOf s (nOf s)) (by omega) _ (Ev.congr (fun k => by rw [wrap_ok (by omega) (by omega)]; rfl) l2) ((kindsOf s (nOf s)).length - cOf s) (cOf s) (by omega)
 have l0 := read_l0 s hs (cOf s) (nOf s) hn4 (by omega) _ l1 (nOf s) 0 (by omega)
 have hfin : rowOut (if ((kindsOf s (nOf s)).drop (cOf s)).all (fun x => decide (x = 0)) = false then .error 14 else rdEnd s (allR s ((kindsOf s (nOf s)).take (cOf s)) (1 + nOf s))) = (if ((kindsOf s (nOf s)).drop (cOf s)).all (fun x => decide (x = 0)) = false then ([], 14) else rowOut (rdEnd s (allR s ((kindsOf s (nOf s)).take (cOf s)) (1 + nOf s)))) := by
  split <;> rfl
 rw [hfin]
 refine Ev.congr (fun k => ?_) l0
 rw [hpre, if_neg (by omega), if_neg (by omega)]
 rfl
end Go.Proofs.YtggbhdcgfnjogaaDoor.PlanLaw

