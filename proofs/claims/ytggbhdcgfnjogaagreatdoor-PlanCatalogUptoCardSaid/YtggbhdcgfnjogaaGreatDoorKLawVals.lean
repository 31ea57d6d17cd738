import Derived.Test.YtggbhdcgfnjogaaGreatDoorKLawTab
import Derived.Test.YtggbhdcgfnjogaaGreatDoorKPPcx20
set_option linter.unusedVariables false
namespace Go.Proofs.YtggbhdcgfnjogaaGreatDoor.PlanLaw
open Go.RowKit Go.Proofs.YtggbhdcgfnjogaaGreatDoor.PPc Go.Proofs.YtggbhdcgfnjogaaGreatDoorW.PrintWords Go.Proofs.YtggbhdcgfnjogaaGreatDoorW.PrintLast
def InR (x : S42) : Prop := -9223372036854775808 ≤ x.f1 ∧ x.f1 ≤ 9223372036854775807
def xp (x : S42) : Int := if 0 ≤ x.f0 ∧ x.f0 < 4 ∧ zU x.f0 x.f1 x.f2 = true then (if x.f2.size > 4096 then 4 else 0) else 19
def flt : List S42 → Int
 | [] => 0
 | x :: l => if xp x = 0 then flt l else xp x
def zY (l : List S42) : Int := if l.length > 16 then 18 else flt l
theorem flt_ne {x : S42} {l : List S42} {c : Int} (h : xp x = c) (hc : c ≠ 0) : flt (x :: l) = c := by
 rw [flt, if_neg (by rw [h]; exact hc), h]
theorem flt_eq {x : S42} {l : List S42} (h : xp x = 0) : flt (x :: l) = flt l := by
 rw [flt, if_pos h]
theorem check_l0 (l : List S42) (hl : l.length ≤ 16) : ∀ (d i : Nat), i + d = l.length → Ev (fun k => qW.l0 k l (l.length : Int) (i : Int)) (flt (l.drop i)) := by
 intro d
 induction d with
 | zero =>
  intro i hi;rw [List.drop_of_length_le (by omega)];refine Ev.step (f := fun _ => some 0) (fun k => ?_) (Ev.now _);simp only [qW.l0];rw [if_neg (by omega)]
 | succ d ih =>
  intro i hi
  have hlt : i < l.length := by omega
  rw [List.drop_eq_getElem_cons hlt];have hr := rd84_at l i hlt;generalize l[i] = x at *
  have bad : ∀ y0 y1 y2, Ev (fun k => qW.j1 k l (l.length : Int) (i : Int) true y0 y1 y2) 19 := fun y0 y1 y2 => Ev.step (f := fun _ => some 19) (fun k => by simp only [qW.j1]; rfl) (Ev.now _)
  by_cases h0 : x.f0 < 0
  · have e : flt (x :: l.drop (i + 1)) = 19 := flt_ne (by unfold xp; rw [if_neg (by omega)]) (by omega)
    rw [e];refine Ev.step (fun k => ?_) (bad x.f0 x.f1 x.f2);simp only [qW.l0];rw [if_pos (by omega), if_pos (by omega), if_pos (by omega), hr, if_pos h0]
  by_cases h4 : x.f0 ≥ 4
  · have e : flt (x :: l.drop (i + 1)) = 19 := flt_ne (by unfold xp; rw [if_neg (by omega)]) (by omega)
    rw [e];refine Ev.step (fun k => ?_) (bad x.f0 x.f1 x.f2);simp only [qW.l0];rw [if_pos (by omega), if_pos (by omega), if_pos (by omega), hr, if_neg h0, if_pos h4]
  have hv : xt.f x.f0 x.f1 x.f2 = some (zU x.f0 x.f1 x.f2) := by unfold xt.f; rw [if_pos (by omega)]
  cases hb : zU x.f0 x.f1 x.f2 with
  | false =>
   have e : flt (x :: l.drop (i + 1)) = 19 := flt_ne (by unfold xp; rw [if_neg (by rw [hb]; simp)]) (by omega);rw [e];refine Ev.step (fun k => ?_) (bad x.f0 x.f1 x.f2);simp only [qW.l0];rw [if_pos (by omega), if_pos (by omega), if_pos (by omega), hr, if_neg h0, if_neg h4, hv, hb]
   rfl
  | true =>
   have hd : ∀ k, qW.l0 (k + 1) l (l.length : Int) (i : Int) = qW.j1 k l (l.length : Int) (i : Int) false x.f0 x.f1 x.f2 := by
    intro k;simp only [qW.l0];rw [if_pos (by omega), if_pos (by omega), if_pos (by omega), hr, if_neg h0, if_neg h4, hv, hb]
    rfl
   refine Ev.step hd ?_
   by_cases hs : x.f2.size > 4096
   · have e : flt (x :: l.drop (i + 1)) = 4 := flt_ne (by unfold xp; rw [if_pos ⟨by omega, by omega, hb⟩, if_pos hs]) (by omega)
     rw [e];refine Ev.step (f := fun _ => some 4) (fun k => ?_) (Ev.now _);simp only [qW.j1];rw [if_neg (by simp), if_pos (by omega)]
   · have e : flt (x :: l.drop (i + 1)) = flt (l.drop (i + 1)) := flt_eq (by unfold xp; rw [if_pos ⟨by omega, by omega, hb⟩, if_neg hs])
     rw [e];refine Ev.step (fun k => ?_) (ih (i + 1) (by omega));simp only [qW.j1];rw [if_neg (by simp), if_neg (by omega), zX hlt (by omega)]
theorem check_is (l : List S42) : Ev (fun k => qW.f k l) (zY l) := by
 unfold zY
 by_cases h : l.length > 16
 · rw [if_pos h]
   refine Ev.congr (fun k => ?_) (Ev.now _);unfold qW.f;rw [if_pos (by omega)]
 · rw [if_neg h]
   refine Ev.congr (fun k => ?_) (check_l0 l (by omega) l.length 0 (by omega));unfold qW.f;rw [if_neg (by omega)]
   rfl
theorem xE (s : ByteArray) : s.toList = ([] : List UInt8) ↔ s.size = 0 := by
 rw [ByteArray.toList_eq]
 have e : s.data.toList.length = s.size := by rw [Array.length_toList]; rfl
 constructor
 · intro h; rw [h] at e; simpa using e.symm
 · intro h; exact List.eq_nil_of_length_eq_zero (by omega)
theorem vm (x : S42) (hx : InR x) : xp x = (if x.f0 = 0 then (if x.f1 = 0 ∧ x.f2.size = 0 then 0 else 19) else if x.f0 = 1 then (if (x.f1 = 0 ∨ x.f1 = 1) ∧ x.f2.size = 0 then 0 else 19) else if x.f0 = 2 then (if x.f2.size = 0 then 0 else 19) else if x.f0 = 3 then (if x.f1 = 0 then (if x.f2.size > 4096 then 4 else 0) else 19) else 19) := by
 obtain ⟨a, b⟩ := hx
 have he : x.f2.toList.isEmpty = decide (x.f2.size = 0) := by
  rw [Bool.eq_iff_iff, decide_eq_true_iff, List.isEmpty_iff, xE]
 have hw : ∀ c : Int, 0 < c → c ≤ 2 → (IntKind.u64.wrap x.f1 < c ↔ 0 ≤ x.f1 ∧ x.f1 < c) := by
  intro c h1 h2;simp only [IntKind.wrap, IntKind.signed, IntKind.bits]
  simp
  omega
 unfold xp
 by_cases h0 : x.f0 = 0
 · rw [if_pos h0]
   have : zU x.f0 x.f1 x.f2 = decide (x.f1 = 0 ∧ x.f2.size = 0) := by
    have e1 : xg x.f0 = 1 := by unfold xg; rw [if_pos h0]
    unfold zU;rw [e1, h0, he, Bool.eq_iff_iff];simp only [Bool.and_eq_true, Bool.or_eq_true, decide_eq_true_iff, hw 1 (by omega) (by omega)]
    omega
   rw [this]
   by_cases h : x.f1 = 0 ∧ x.f2.size = 0
   · rw [if_pos ⟨by omega, by omega, decide_eq_true h⟩, if_pos h, if_neg (by omega)]
   · rw [if_neg (by intro hh; exact h (of_decide_eq_true hh.2.2)), if_neg h]
 rw [if_neg h0]
 by_cases h1 : x.f0 = 1
 · rw [if_pos h1]
   have : zU x.f0 x.f1 x.f2 = decide ((x.f1 = 0 ∨ x.f1 = 1) ∧ x.f2.size = 0) := by
    have e1 : xg x.f0 = 2 := by unfold xg; rw [if_neg h0, if_pos h1]
    unfold zU;rw [e1, h1, he, Bool.eq_iff_iff];simp only [Bool.and_eq_true, Bool.or_eq_true, decide_eq_true_iff, hw 2 (by omega) (by omega)]
    omega
   rw [this]
   by_cases h : (x.f1 = 0 ∨ x.f1 = 1) ∧ x.f2.size = 0
   · rw [if_pos ⟨by omega, by omega, decide_eq_true h⟩, if_pos h, if_neg (by omega)]
   · rw [if_neg (by intro hh; exact h (of_decide_eq_true hh.2.2)), if_neg h]
 rw [if_neg h1]
 by_cases h2 : x.f0 = 2
 · rw [if_pos h2]
   have : zU x.f0 x.f1 x.f2 = decide (x.f2.size = 0) := by
    have e1 : xg x.f0 = 0 := by unfold xg; rw [if_neg h0, if_neg h1, if_pos h2]
    unfold zU;rw [e1, h2, he, Bool.eq_iff_iff]
    simp
   rw [this]
   by_cases h : x.f2.size = 0
   · rw [if_pos ⟨by omega, by omega, decide_eq_true h⟩, if_pos h, if_neg (by omega)]
   · rw [if_neg (by intro hh; exact h (of_decide_eq_true hh.2.2)), if_neg h]
 rw [if_neg h2]
 by_cases h3 : x.f0 = 3
 · rw [if_pos h3]
   have : zU x.f0 x.f1 x.f2 = decide (x.f1 = 0) := by
    have e1 : xg x.f0 = 1 := by unfold xg; rw [if_neg h0, if_neg h1, if_neg h2]
    unfold zU;rw [e1, h3, he, Bool.eq_iff_iff];simp only [Bool.and_eq_true, Bool.or_eq_true, decide_eq_true_iff, hw 1 (by omega) (by omega)]
    simp
    omega
   rw [this]
   by_cases h : x.f1 = 0
   · rw [if_pos ⟨by omega, by omega, decide_eq_true h⟩, if_pos h]
   · rw [if_neg (by intro hh; exact h (of_decide_eq_true hh.2.2)), if_neg h]
 rw [if_neg h3, if_neg (by omega)]
theorem Fault_is (x : S42) (hx : InR x) : Ev (fun k => qM.f k x.f0 x.f1 x.f2) (xp x) := by
 rw [vm x hx]
 by_cases h0 : x.f0 = 0
 · rw [if_pos h0]
   refine Ev.congr (fun k => ?_) (Ev.now _);unfold qM.f;rw [if_pos h0]
   by_cases h : x.f1 = 0
   · rw [if_pos h]
     by_cases hs : x.f2.size = 0
     · rw [if_pos ((xE _).2 hs), if_pos ⟨h, hs⟩]
     · rw [if_neg (fun e => hs ((xE _).1 e)), if_neg (fun e => hs e.2)]
   · rw [if_neg h, if_neg (fun e => h e.1)]
 rw [if_neg h0]
 by_cases h1 : x.f0 = 1
 · rw [if_pos h1]
   refine Ev.congr (fun k => ?_) (Ev.now _);unfold qM.f;rw [if_neg h0, if_pos h1]
   by_cases hs : x.f2.size = 0
   · rw [if_pos ((xE _).2 hs)]
     by_cases ha : x.f1 = 0
     · rw [if_pos ha, if_pos ⟨Or.inl ha, hs⟩]
     · rw [if_neg ha]
       by_cases hb : x.f1 = 1
       · rw [if_pos hb, if_pos ⟨Or.inr hb, hs⟩]
       · rw [if_neg hb, if_neg (by omega)]
   · rw [if_neg (fun e => hs ((xE _).1 e)), if_neg (show ¬ ((x.f1 = 0 ∨ x.f1 = 1) ∧ x.f2.size = 0) from fun e => hs e.2)]
     split
     · rfl
     · split <;> rfl
 rw [if_neg h1]
 by_cases h2 : x.f0 = 2
 · rw [if_pos h2]
   refine Ev.congr (fun k => ?_) (Ev.now _);unfold qM.f;rw [if_neg h0, if_neg h1, if_pos h2]
   by_cases hs : x.f2.size = 0
   · rw [if_pos ((xE _).2 hs), if_pos hs]
   · rw [if_neg (fun e => hs ((xE _).1 e)), if_neg hs]
 rw [if_neg h2]
 by_cases h3 : x.f0 = 3
 · rw [if_pos h3]
   by_cases h : x.f1 = 0
   · rw [if_pos h]
     refine Ev.congr (f := fun k => qM.j0 k (decide ((x.f2.size : Int) > 4096)) x.f0 x.f1 x.f2) (fun k => ?_) ?_
     · unfold qM.f
       rw [if_neg h0, if_neg h1, if_neg h2, if_pos h3, if_pos h]
     · by_cases hs : x.f2.size > 4096
       · rw [if_pos hs]
         refine Ev.step (f := fun _ => some 4) (fun k => ?_) (Ev.now _);simp only [qM.j0];rw [if_pos (decide_eq_true (by omega))]
       · rw [if_neg hs]
         refine Ev.step (f := fun _ => some 0) (fun k => ?_) (Ev.now _);simp only [qM.j0];rw [if_neg (by rw [decide_eq_true_iff]; omega), if_pos h]
   · rw [if_neg h]
     refine Ev.congr (f := fun k => qM.j0 k false x.f0 x.f1 x.f2) (fun k => ?_) ?_
     · unfold qM.f
       rw [if_neg h0, if_neg h1, if_neg h2, if_pos h3, if_neg h]
     · refine Ev.step (f := fun _ => some 19) (fun k => ?_) (Ev.now _)
       simp only [qM.j0];rw [if_neg (by simp), if_neg h]
 rw [if_neg h3];refine Ev.congr (fun k => ?_) (Ev.now _);unfold qM.f;rw [if_neg h0, if_neg h1, if_neg h2, if_neg h3]
theorem faults_l0 (l : List S42) (hl : l.length ≤ 16) (hx : ∀ x ∈ l, InR x) : ∀ (d i : Nat), i + d = l.length → Ev (fun k => qN.l0 k l (i : Int)) (flt (l.drop i)) := by
 intro d
 induction d with
 | zero =>
  intro i hi;rw [List.drop_of_length_le (by omega)];refine Ev.step (f := fun _ => some 0) (fun k => ?_) (Ev.now _);simp only [qN.l0];rw [if_neg (by omega)]
 | succ d ih =>
  intro i hi
  have hlt : i < l.length := by omega
  have hm := hx _ (List.getElem_mem hlt);rw [List.drop_eq_getElem_cons hlt];have hr := rd84_at l i hlt;generalize l[i] = x at *;refine Ev.step (fun k => ?_) (Ev.bind (Fault_is x hm) (f := fun k t164 => (if t164 = 0 then (qN.l0 k l (wrap64 ((i : Int) + 1))) else (some t164))) ?_)
  · simp only [qN.l0]
    rw [if_pos (by omega), if_pos (by omega), hr]
  · by_cases h : xp x = 0
    · have e : flt (x :: l.drop (i + 1)) = flt (l.drop (i + 1)) := by
       rw [flt, if_pos h]
      rw [e];refine Ev.congr (fun k => ?_) (ih (i + 1) (by omega));rw [if_pos h, zX hlt (by omega)]
    · rw [flt, if_neg h]
      refine Ev.congr (fun k => ?_) (Ev.now _);rw [if_neg h]
theorem faults_is (l : List S42) (hx : ∀ x ∈ l, InR x) : Ev (fun k => qN.f k l) (zY l) := by
 unfold zY
 by_cases h : l.length > 16
 · rw [if_pos h]
   refine Ev.congr (fun k => ?_) (Ev.now _);unfold qN.f;rw [if_pos (by omega)]
 · rw [if_neg h]
   refine Ev.congr (fun k => ?_) (faults_l0 l (by omega) hx l.length 0 (by omega));unfold qN.f;rw [if_neg (by omega)]
   rfl
theorem flt_zero {l : List S42} : flt l = 0 ↔ ∀ x ∈ l, xp x = 0 := by
 induction l with
 | nil => simp [flt]
 | cons x l ih =>
  rw [flt]
  by_cases h : xp x = 0
  · rw [if_pos h, ih]; simp [h]
  · rw [if_neg h]; simp [h]
theorem fault_good {x : S42} (hx : InR x) (h : xp x = 0) : xJ x := by
 unfold xp at h
 by_cases hc : 0 ≤ x.f0 ∧ x.f0 < 4 ∧ zU x.f0 x.f1 x.f2 = true
 · rw [if_pos hc] at h
   by_cases hs : x.f2.size > 4096
   · rw [if_pos hs] at h; omega
   · exact ⟨hc.1, hc.2.1, hx.1, hx.2, by omega⟩
 · rw [if_neg hc] at h; omega
theorem faults_good {l : List S42} (hx : ∀ x ∈ l, InR x) (h : zY l = 0) : xZ l ∧ ∀ x ∈ l, xp x = 0 := by
 unfold zY at h
 by_cases hl : l.length > 16
 · rw [if_pos hl] at h; omega
 · rw [if_neg hl] at h
   have := flt_zero.1 h
   exact ⟨⟨by omega, fun x hm => fault_good (hx x hm) (this x hm)⟩, this⟩
theorem tdiv256 {u : Int} (h0 : 0 ≤ u) (h1 : u < 18446744073709551616) : IntKind.u64.wrap (u.tdiv 256) = u / 256 := by
 rw [Int.tdiv_eq_ediv_of_nonneg h0];simp only [IntKind.wrap, IntKind.signed, IntKind.bits]
 simp
 omega
theorem size_l0 : ∀ (d : Nat) (u i : Int), 0 ≤ u → u < 18446744073709551616 → u.toNat < 256 ^ d → 0 ≤ i → i + d ≤ 1000 → Ev (fun k => qU.l0 k u i) (i + ((Lib.bitLen u.toNat + 7) / 8 : Nat)) := by
 intro d
 induction d with
 | zero =>
  intro u i h0 h1 h2 h3 h4
  obtain rfl : u = 0 := by simp at h2; omega
  refine Ev.step (f := fun _ => some i) (fun k => ?_) (by simpa [show (Lib.bitLen 0 + 7) / 8 = 0 by decide] using Ev.now i);simp only [qU.l0];rw [if_neg (by omega)]
 | succ d ih =>
  intro u i h0 h1 h2 h3 h4
  by_cases hu : u = 0
  · subst hu
    refine Ev.step (f := fun _ => some i) (fun k => ?_) (by simpa [show (Lib.bitLen 0 + 7) / 8 = 0 by decide] using Ev.now i);simp only [qU.l0];rw [if_neg (by omega)]
  · have hq : (u / 256).toNat = u.toNat / 256 := by omega
    have e : i + ((Lib.bitLen u.toNat + 7) / 8 : Nat) = (i + 1) + ((Lib.bitLen (u / 256).toNat + 7) / 8 : Nat) := by
     rw [hq]
     by_cases hb : 256 ≤ u.toNat
     · rw [Lib.bitLen_shift8 u.toNat hb (by omega)]
       omega
     · have h8 := Lib.bitLen_le8 ⟨u.toNat, by omega⟩
       have hz : u.toNat / 256 = 0 := by omega
       have hp : 1 ≤ Lib.bitLen u.toNat := by
        rw [Lib.bitLen_half u.toNat (by omega) (by omega)]; omega
       simp only at h8
       rw [hz, show Lib.bitLen 0 = 0 by decide]
       omega
    rw [e];refine Ev.step (fun k => ?_) (ih (u / 256) (i + 1) (by omega) (by omega) (by rw [hq, Nat.div_lt_iff_lt_mul (by omega), ← Nat.pow_succ]; exact h2) (by omega) (by omega));simp only [qU.l0];rw [if_pos (by omega), tdiv256 h0 h1, z8 (by omega) (by omega)]
theorem size_is (u : Int) (h0 : 0 ≤ u) (h1 : u < 18446744073709551616) : Ev (fun k => qU.f k u) (((Lib.bitLen u.toNat + 7) / 8 : Nat) : Int) := by
 have := size_l0 8 u 0 h0 h1 (by omega) (by omega) (by omega);rw [Int.zero_add] at this
 exact this
theorem bitLen_lt : ∀ (d u : Nat), u < 256 ^ d → d ≤ 8 → Lib.bitLen u ≤ 8 * d := by
 intro d
 induction d with
 | zero => intro u h _; obtain rfl : u = 0 := by simpa using h
           decide
 | succ d ih =>
  intro u h hd;have hu : u < 18446744073709551616 := Nat.lt_of_lt_of_le h (Nat.pow_le_pow_right (n := 256) (by omega) hd)
  by_cases hb : 256 ≤ u
  · rw [Lib.bitLen_shift8 u hb hu]
    have := ih (u / 256) (by rw [Nat.div_lt_iff_lt_mul (by omega), ← Nat.pow_succ]; exact h) (by omega)
    omega
  · have h8 := Lib.bitLen_le8 ⟨u, by omega⟩
    simp only at h8
    omega
def hiB (u turn : Int) (n : Nat) : List Int := (List.range n).map fun j => Go.bits .xor .u8 ((u / 256 ^ (n - 1 - j)) % 256) turn
theorem high_l0 (u0 turn : Int) (hu : 0 ≤ u0) (hu1 : u0 < 18446744073709551616) (n : Nat) (hn : n ≤ 8) : ∀ (d : Nat) (bs : List Int), d ≤ n → bs.length = n → bs.drop d = (hiB u0 turn n).drop d →
 Ev (fun k => qH.l0 k (u0 / 256 ^ (n - d)) turn bs ((d : Int) - 1)) (hiB u0 turn n) := by
 intro d
 induction d with
 | zero =>
  intro bs _ hb he
  have : bs = hiB u0 turn n := by simpa using he
  subst this;refine Ev.step (f := fun _ => some (hiB u0 turn n)) (fun k => ?_) (Ev.now _);simp only [qH.l0];rw [if_neg (by omega)]
 | succ d ih =>
  intro bs hd hb he;have hp : (0 : Int) < 256 ^ (n - (d + 1)) := Int.pow_pos (by omega);have hq0 : 0 ≤ u0 / 256 ^ (n - (d + 1)) := Int.ediv_nonneg hu (by omega);have hq1 : u0 / 256 ^ (n - (d + 1)) < 18446744073709551616 := Int.lt_of_le_of_lt (Int.ediv_le_self _ hu) hu1
  have hnext : u0 / 256 ^ (n - (d + 1)) / 256 = u0 / 256 ^ (n - d) := by
   rw [Int.ediv_ediv_of_nonneg (by omega), ← Int.pow_succ, show (n - (d + 1)).succ = n - d by omega]
  have hlen : (hiB u0 turn n).length = n := by simp [hiB]
  have hcell : (hiB u0 turn n)[d]? = some (Go.bits .xor .u8 ((u0 / 256 ^ (n - (d + 1))) % 256) turn) := by
   have hdn : d < n := by omega
   simp [hiB, hdn, show n - 1 - d = n - (d + 1) by omega]
  refine Ev.step (fun k => ?_) (ih (bs.set d (Go.bits .xor .u8 ((u0 / 256 ^ (n - (d + 1))) % 256) turn)) (by omega) (by simp [hb]) ?_)
  · have e1 : (((d + 1 : Nat) : Int) - 1) = (d : Int) := by omega
    simp only [e1, qH.l0];rw [if_pos (by omega), if_pos (by omega), if_pos (by omega), tdiv256 hq0 hq1, hnext, z8 (by omega) (by omega), Int.toNat_natCast, Int.tmod_eq_emod_of_nonneg hq0, show u0 / 256 ^ (n - (d + 1)) % 256 % 256 = u0 / 256 ^ (n - (d + 1)) % 256 by omega]
  · apply List.ext_getElem?
    intro m;rw [List.getElem?_drop, List.getElem?_drop]
    cases m with
    | zero =>
     simp only [Nat.add_zero];rw [hcell, List.getElem?_set_self (by omega)]
    | succ m =>
     rw [List.getElem?_set_ne (by omega)];have := congrArg (fun l => l[m]?) he;simp only [List.getElem?_drop] at this;rw [show d + (m + 1) = d + 1 + m by omega]
     exact this
theorem high_is (u turn : Int) (hu : 0 ≤ u) (hu1 : u < 18446744073709551616) (n : Nat) (hn : n ≤ 8) : Ev (fun k => qH.f k u (n : Int) turn) (hiB u turn n) := by
 have h := high_l0 u turn hu hu1 n hn n (List.replicate n 0) (Nat.le_refl _) (by simp) (by simp [hiB]);rw [Nat.sub_self, Int.pow_zero, Int.ediv_one] at h;refine Ev.congr (fun k => ?_) h;unfold qH.f;rw [if_pos (by omega), Int.toNat_natCast, if_pos (by omega), z8 (by omega) (by omega)]
theorem bits_xor_u8_0 (b : Int) (h0 : 0 ≤ b) (h1 : b < 256) : Go.bits .xor .u8 b 0 = b := by
 have h : ∀ b : Fin 256, Go.bits .xor .u8 (b.val : Int) 0 = (b.val : Int) := by decide +kernel
 obtain ⟨n, rfl⟩ := Int.eq_ofNat_of_zero_le h0
 exact h ⟨n, by omega⟩
theorem bits_xor_u8_255 (b : Int) (h0 : 0 ≤ b) (h1 : b < 256) : Go.bits .xor .u8 b 255 = 255 - b := by
 have h : ∀ b : Fin 256, Go.bits .xor .u8 (b.val : Int) 255 = 255 - (b.val : Int) := by decide +kernel
 obtain ⟨n, rfl⟩ := Int.eq_ofNat_of_zero_le h0
 exact h ⟨n, by omega⟩
theorem rems_hi (U : Int) : ∀ n : Nat, rems U n = (List.range n).map fun j => (U / 256 ^ (n - 1 - j)) % 256 := by
 intro n
 induction n with
 | zero => rfl
 | succ n ih =>
  rw [rems, ih, List.range_succ_eq_map, List.map_cons, List.map_map]
  congr 1
  · rw [Int.pow_mul]; rfl
  · apply List.map_congr_left
    intro j hj;simp only [Function.comp];rw [show n + 1 - 1 - (j + 1) = n - 1 - j by omega]
theorem turn_div (u : Int) (h0 : 0 ≤ u) (h1 : u < 18446744073709551616) : ∀ m : Nat, m ≤ 7 → ((18446744073709551615 - u) / 256 ^ m) % 256 = 255 - (u / 256 ^ m) % 256 := by
 intro m hm
 have : m = 0 ∨ m = 1 ∨ m = 2 ∨ m = 3 ∨ m = 4 ∨ m = 5 ∨ m = 6 ∨ m = 7 := by omega
 rcases this with rfl | rfl | rfl | rfl | rfl | rfl | rfl | rfl <;> simp <;> omega
theorem lay_hi (i : Int) (h0 : -9223372036854775808 ≤ i) (h1 : i ≤ 9223372036854775807) :
 zL i = (if i < 0 then 55 - (zj i : Int) else 56 + (zj i : Int)) :: hiB (if i < 0 then -1 - i else i) (if i < 0 then 255 else 0) (zj i) := by
 have hn : zj i ≤ 8 := by
  unfold zj;have := bitLen_lt 8 (if 0 ≤ i then i else -1 - i).toNat (by split <;> omega) (by omega)
  omega
 unfold zL
 by_cases h : i < 0
 · rw [if_pos h, if_pos h, if_pos h, if_neg (by omega)]
   congr 1
   rw [rems_hi];unfold hiB
   apply List.map_congr_left
   intro j hj
   have hj' : j < zj i := by simpa using hj
   have e : IntKind.u64.wrap i = 18446744073709551615 - (-1 - i) := by
    simp only [IntKind.wrap, IntKind.signed, IntKind.bits]; simp; omega
   rw [e, turn_div (-1 - i) (by omega) (by omega) _ (by omega), bits_xor_u8_255 _ (Int.emod_nonneg _ (by omega)) (Int.emod_lt_of_pos _ (by omega))]
 · rw [if_neg h, if_neg h, if_neg h, if_pos (by omega)]
   congr 1
   rw [rems_hi];unfold hiB
   apply List.map_congr_left
   intro j hj
   have e : IntKind.u64.wrap i = i := by
    simp only [IntKind.wrap, IntKind.signed, IntKind.bits]; simp; omega
   rw [e, bits_xor_u8_0 _ (Int.emod_nonneg _ (by omega)) (Int.emod_lt_of_pos _ (by omega))]
theorem index_cons_ne (b c : UInt8) (l : List UInt8) (h : b ≠ c) : Lib.index (b :: l) [c] = if Lib.index l [c] == -1 then -1 else Lib.index l [c] + 1 := by
 rw [Lib.index, if_neg (by simp [List.isPrefixOf, Ne.symm h])]
theorem replaceK_cons_ne (b c : UInt8) (new : List UInt8) (n : Nat) (l : List UInt8) (h : b ≠ c) : Lib.replaceK [c] new n (b :: l) = b :: Lib.replaceK [c] new n l := by
 cases n with
 | zero => rfl
 | succ n =>
  have hg := Lib.index_ge l [c];rw [Lib.replaceK, Lib.replaceK, index_cons_ne b c l h]
  by_cases hm : Lib.index l [c] = -1
  · rw [hm]; rfl
  · have e1 : (Lib.index l [c] == -1) = false := by simpa using hm
    have e2 : (Lib.index l [c] + 1 == -1) = false := by simp; omega
    obtain ⟨i, hi⟩ : ∃ i : Nat, Lib.index l [c] = i := ⟨(Lib.index l [c]).toNat, by omega⟩;rw [e1];simp only [Bool.false_eq_true, if_false];rw [e2, hi];simp only [Bool.false_eq_true, if_false];rw [show ((i : Int) + 1).toNat = i + 1 by omega, Int.toNat_natCast, List.take_succ_cons, show i + 1 + [c].length = (i + [c].length) + 1 by omega, List.drop_succ_cons]
    rfl
theorem replaceK_cons_eq (c : UInt8) (new : List UInt8) (n : Nat) (l : List UInt8) : Lib.replaceK [c] new (n + 1) (c :: l) = new ++ Lib.replaceK [c] new n l := by
 have e : Lib.index (c :: l) [c] = 0 := by rw [Lib.index, if_pos (by simp [List.isPrefixOf])]
 rw [Lib.replaceK, e]
 rfl
def escB (l : List UInt8) : List UInt8 := l.flatMap fun b => if b = 0 then [0, 255] else [b]
theorem esc_K : ∀ l : List UInt8, Lib.replaceK [0] [0, 255] (Lib.count l [0]) l = escB l := by
 intro l
 induction l with
 | nil => rw [show Lib.count [] [0] = 0 from rfl]; rfl
 | cons b l ih =>
  unfold escB;rw [List.flatMap_cons]
  by_cases h : b = 0
  · subst h
    rw [Lib.count_cons_eq, Nat.add_comm, replaceK_cons_eq, ih, if_pos rfl]
    rfl
  · rw [Lib.count_cons_ne b 0 l h, replaceK_cons_ne b 0 _ _ _ h, ih, if_neg h]
    rfl
theorem esc_all (l : List UInt8) : Lib.replaceAll l [0] [0, 255] = escB l := by
 unfold Lib.replaceAll Lib.replace Lib.replaceNum;rw [if_neg (by decide), if_pos (Or.inl (by omega)), esc_K]
def escI (t : ByteArray) (n : Nat) : List Int := ((t.data.toList.take n)).flatMap fun b => if b = 0 then [0, 255] else [(b.toNat : Int)]
theorem esc_bytes (t : ByteArray) : zh ⟨(escB t.data.toList).toArray⟩ = escI t t.size := by
 have e : t.data.toList.take t.size = t.data.toList := List.take_of_length_le (by rw [zN]; exact Nat.le_refl _);unfold escI escB zh;rw [e];simp only [List.map_flatMap]
 congr 1
 funext b
 split <;> rfl
theorem esc_len (t : ByteArray) (n : Nat) : (escI t n).length ≤ 2 * n := by
 unfold escI
 have : ∀ l : List UInt8, (l.flatMap fun b => if b = 0 then [(0 : Int), 255] else [(b.toNat : Int)]).length ≤ 2 * l.length := by
  intro l
  induction l with
  | nil => simp
  | cons b l ih =>
   rw [List.flatMap_cons, List.length_append]
   split <;> simp only [List.length_cons, List.length_nil] <;> omega
 refine Nat.le_trans (this _) ?_
 simp
 omega
theorem bt_data (t : ByteArray) (n : Nat) (h : n < t.size) : bt t (n : Int) = ((t.data.toList[n]'(by rw [zN]; exact h)).toNat : Int) := by
 unfold bt;rw [dif_pos (by simpa using h)]
 simp
 rfl
theorem esc_succ (t : ByteArray) (n : Nat) (h : n < t.size) : escI t (n + 1) = escI t n ++ (if bt t (n : Int) = 0 then [bt t (n : Int), 255] else [bt t (n : Int)]) := by
 have hl : n < t.data.toList.length := by rw [zN]; exact h
 unfold escI;rw [List.take_succ_eq_append_getElem hl, List.flatMap_append, bt_data t n h]
 congr 1
 generalize t.data.toList[n] = b;simp only [List.flatMap_cons, List.flatMap_nil, List.append_nil]
 by_cases hb : b = 0
 · subst hb; rfl
 · rw [if_neg hb, if_neg]
   intro e
   apply hb
   apply UInt8.toNat_inj.1
   exact_mod_cast e
theorem keyOf_l0 (t : ByteArray) (ht : t.size ≤ 4096) (a b : Int) : ∀ (d n : Nat), n + d = t.size → Ev (fun k => qB.l0 k ([80] ++ escI t n) (n : Int) a b t) ([80] ++ escI t t.size ++ [0, 1]) := by
 intro d
 induction d with
 | zero =>
  intro n hn
  obtain rfl : n = t.size := by omega
  have := esc_len t t.size;refine Ev.step (f := fun _ => some ([80] ++ escI t t.size ++ [0, 1])) (fun k => ?_) (Ev.now _);simp only [qB.l0];rw [if_neg (by omega)];simp only [Option.bind_some];rw [if_pos (by simp; omega)]
 | succ d ih =>
  intro n hn
  have hlt : n < t.size := by omega
  have hlen := esc_len t n;have hsucc := esc_succ t n hlt;have hih := ih (n + 1) (by omega);refine Ev.step (fun k => ?_) hih;simp only [qB.l0];rw [if_pos (by omega), if_pos (by omega), if_pos (by simp; omega)];simp only [Option.bind_some]
  by_cases hb : bt t (n : Int) = 0
  · rw [if_pos hb, if_pos (by simp; omega), zX hlt (by omega), hsucc, if_pos hb]
    simp
  · rw [if_neg hb, zX hlt (by omega), hsucc, if_neg hb]
    simp
theorem keyOf_j0_neg (u a b : Int) (t : ByteArray) (n : Nat) (hn : n ≤ 8) (hb : b < 0) (hs : Ev (fun k => qU.f k u) (n : Int)) (hh : Ev (fun k => qH.f k u (n : Int) 255) (hiB u 255 n)) :
 Ev (fun k => qB.j0 k ([] : List Int) u 255 a b t) ((55 - (n : Int)) :: hiB u 255 n) := by
 have hl : (hiB u 255 n).length = n := by simp [hiB]
 refine Ev.step (f := fun k => (qU.f k u).bind fun t176 => (if b < 0 then (if ([] : List Int).length < 140737488355328 then ((some (([] : List Int) ++ [(wrap64 (55 - t176)) % 256] : List Int)).bind fun y177 => ((qH.f k u t176 255).bind fun t180 => (if y177.length + t180.length < 140737488355328 then (some (y177 ++ t180)) else (none)))) else (none)) else (if ([] : List Int).length < 140737488355328 then ((some (([] : List Int) ++ [(wrap64 (56 + t176)) % 256] : List Int)).bind fun y186 => ((qH.f k u t176 255).bind fun t189 => (if y186.length + t189.length < 140737488355328 then (some (y186 ++ t189)) else (none)))) else (none)))) (fun k => by simp only [qB.j0]) (Ev.bind hs ?_);refine Ev.congr (f := fun k => (qH.f k u (n : Int) 255).bind fun t180 => (if [(55 - (n : Int))].length + t180.length < 140737488355328 then (some ([(55 - (n : Int))] ++ t180)) else (none))) (fun k => ?_) (Ev.bind hh (Ev.congr (fun k => ?_) (Ev.now _)))
 · rw [if_pos hb, if_pos (by simp), z8 (by omega) (by omega), show (55 - (n : Int)) % 256 = 55 - (n : Int) by omega]
   rfl
 · rw [if_pos (by simp [hl]; omega)]
   rfl
theorem keyOf_j0_pos (u a b : Int) (t : ByteArray) (n : Nat) (hn : n ≤ 8) (hb : ¬ b < 0) (hs : Ev (fun k => qU.f k u) (n : Int)) (hh : Ev (fun k => qH.f k u (n : Int) 0) (hiB u 0 n)) :
 Ev (fun k => qB.j0 k ([] : List Int) u 0 a b t) ((56 + (n : Int)) :: hiB u 0 n) := by
 have hl : (hiB u 0 n).length = n := by simp [hiB]
 refine Ev.step (f := fun k => (qU.f k u).bind fun t176 => (if b < 0 then (if ([] : List Int).length < 140737488355328 then ((some (([] : List Int) ++ [(wrap64 (55 - t176)) % 256] : List Int)).bind fun y177 => ((qH.f k u t176 0).bind fun t180 => (if y177.length + t180.length < 140737488355328 then (some (y177 ++ t180)) else (none)))) else (none)) else (if ([] : List Int).length < 140737488355328 then ((some (([] : List Int) ++ [(wrap64 (56 + t176)) % 256] : List Int)).bind fun y186 => ((qH.f k u t176 0).bind fun t189 => (if y186.length + t189.length < 140737488355328 then (some (y186 ++ t189)) else (none)))) else (none)))) (fun k => by simp only [qB.j0]) (Ev.bind hs ?_);refine Ev.congr (f := fun k => (qH.f k u (n : Int) 0).bind fun t180 => (if [(56 + (n : Int))].length + t180.length < 140737488355328 then (some ([(56 + (n : Int))] ++ t180)) else (none))) (fun k => ?_) (Ev.bind hh (Ev.congr (fun k => ?_) (Ev.now _)))
 · rw [if_neg hb, if_pos (by simp), z8 (by omega) (by omega), show (56 + (n : Int)) % 256 = 56 + (n : Int) by omega]
   rfl
 · rw [if_pos (by simp [hl]; omega)]
   rfl
theorem keyOf_is (x : S42) (hx : xJ x) (hf : xp x = 0) : Ev (fun k => qB.f k x.f0 x.f1 x.f2) (layV x) := by
 obtain ⟨g0, g1, g2, g3, g4⟩ := hx;rw [vm x ⟨g2, g3⟩] at hf;unfold layV layB
 by_cases h0 : x.f0 = 0
 · rw [if_pos h0]
   refine Ev.congr (fun k => ?_) (Ev.now _);unfold qB.f;rw [if_pos h0]
   rfl
 rw [if_neg h0] at hf ⊢
 by_cases h1 : x.f0 = 1
 · rw [if_pos h1] at hf ⊢
   refine Ev.congr (fun k => ?_) (Ev.now _);unfold qB.f;rw [if_neg h0, if_pos h1, if_pos (by simp), z8 (by omega) (by omega)]
   by_cases hc : (x.f1 = 0 ∨ x.f1 = 1) ∧ x.f2.size = 0
   · rcases hc.1 with h | h <;> rw [h] <;> decide
   · rw [if_neg hc] at hf; omega
 rw [if_neg h1] at hf ⊢
 by_cases h2 : x.f0 = 2
 · rw [if_pos h2, lay_hi x.f1 g2 g3]
   have hn : zj x.f1 ≤ 8 := by
    unfold zj;have := bitLen_lt 8 (if 0 ≤ x.f1 then x.f1 else -1 - x.f1).toNat (by split <;> omega) (by omega)
    omega
   by_cases h : x.f1 < 0
   · rw [if_pos h, if_pos h, if_pos h]
     have eu : IntKind.u64.wrap (wrap64 ((-1) - x.f1)) = -1 - x.f1 := by
      rw [z8 (by omega) (by omega)]
      simp only [IntKind.wrap, IntKind.signed, IntKind.bits]; simp; omega
     have hs := size_is (-1 - x.f1) (by omega) (by omega)
     have en : ((Lib.bitLen (-1 - x.f1).toNat + 7) / 8 : Nat) = zj x.f1 := by unfold zj; rw [if_neg (by omega)]
     rw [en] at hs;have hh := high_is (-1 - x.f1) 255 (by omega) (by omega) (zj x.f1) hn
     have hhl : (hiB (-1 - x.f1) 255 (zj x.f1)).length = zj x.f1 := by simp [hiB]
     refine Ev.congr (fun k => ?_) (keyOf_j0_neg (-1 - x.f1) x.f0 x.f1 x.f2 (zj x.f1) hn h hs hh);unfold qB.f;rw [if_neg h0, if_neg h1, if_pos h2, if_pos h, eu]
   · rw [if_neg h, if_neg h, if_neg h]
     have eu : IntKind.u64.wrap x.f1 = x.f1 := by
      simp only [IntKind.wrap, IntKind.signed, IntKind.bits]; simp; omega
     have hs := size_is x.f1 (by omega) (by omega)
     have en : ((Lib.bitLen x.f1.toNat + 7) / 8 : Nat) = zj x.f1 := by unfold zj; rw [if_pos (by omega)]
     rw [en] at hs;have hh := high_is x.f1 0 (by omega) (by omega) (zj x.f1) hn;refine Ev.congr (fun k => ?_) (keyOf_j0_pos x.f1 x.f0 x.f1 x.f2 (zj x.f1) hn h hs hh);unfold qB.f;rw [if_neg h0, if_neg h1, if_pos h2, if_neg h, eu]
 · rw [if_neg h2]
   unfold xv;rw [esc_all, esc_bytes];refine Ev.congr (fun k => ?_) (keyOf_l0 x.f2 g4 x.f0 x.f1 x.f2.size 0 (by omega));unfold qB.f;rw [if_neg h0, if_neg h1, if_neg h2, if_pos (by simp)]
   rfl
theorem layV_len (x : S42) (h : xJ x) : (layV x).length ≤ 9000 := by
 unfold layV layB
 have hr : ∀ n U, (rems U n).length = n := by
  intro n U
  rw [rems_hi]; simp
 split
 · simp
 split
 · simp
 split
 · unfold zL
   have hn : zj x.f1 ≤ 8 := by
    unfold zj;have := bitLen_lt 8 (if 0 ≤ x.f1 then x.f1 else -1 - x.f1).toNat (by obtain ⟨_, _, a, b, _⟩ := h; split <;> omega) (by omega)
    omega
   rw [List.length_cons, hr]
   omega
 · unfold xv
   rw [esc_all, esc_bytes];have := esc_len x.f2 x.f2.size;have := h.2.2.2.2;simp only [List.length_append, List.length_cons, List.length_nil]
   omega
theorem key_l0 (l : List S42) (hl : l.length ≤ 16) (hg : ∀ x ∈ l, xJ x) (hf : ∀ x ∈ l, xp x = 0) : ∀ (d i : Nat), i + d = l.length → Ev (fun k => qP.l0 k l ((l.take i).flatMap layV) (i : Int)) (strOfNums (l.flatMap layV), 0) := by
 intro d
 induction d with
 | zero =>
  intro i hi;refine Ev.step (f := fun _ => some (strOfNums (l.flatMap layV), 0)) (fun k => ?_) (Ev.now _);simp only [qP.l0];rw [if_neg (by omega), List.take_of_length_le (by omega)]
 | succ d ih =>
  intro i hi
  have hlt : i < l.length := by omega
  have hm := List.getElem_mem hlt;have hk := keyOf_is _ (hg _ hm) (hf _ hm);have hr := rd84_at l i hlt;have ht := rd_take (l := l) layV i hlt;rw [hr] at ht;have hlen := flat_len (l := l.take i) layV 9000 (fun x hx => layV_len x (hg x (List.mem_of_mem_take hx)))
  have hlen2 : (l.take i).length ≤ 16 := by simp; omega
  have hlen3 := layV_len _ (hg _ hm);have hih := ih (i + 1) (by omega);rw [ht] at hih;generalize l[i] = x at *;refine Ev.step (f := fun k => (qB.f k x.f0 x.f1 x.f2).bind fun t212 => (if ((l.take i).flatMap layV).length + t212.length < 140737488355328 then (qP.l0 k l (((l.take i).flatMap layV) ++ t212) (wrap64 ((i : Int) + 1))) else (none))) (fun k => ?_) (Ev.bind hk ?_)
  · simp only [qP.l0]
    rw [if_pos (by omega), if_pos (by omega), hr]
  · refine Ev.congr (fun k => ?_) hih
    rw [if_pos (by omega), zX hlt (by omega)]
def keyR (l : List S42) : ByteArray × Int := if zY l = 0 then (strOfNums (l.flatMap layV), 0) else (⟨#[]⟩, zY l)
theorem key_prog (l : List S42) (hx : ∀ x ∈ l, InR x) : Ev (fun k => xe.f k l) (keyR l) := by
 unfold xe.f keyR;refine Ev.bind (check_is l) (Ev.congr (fun k => ?_) (Ev.now _))
 by_cases h : zY l = 0
 · rw [if_pos h, if_pos h, if_pos (faults_good hx h).1]
 · rw [if_neg h, if_neg h]
theorem key_ref (l : List S42) (hx : ∀ x ∈ l, InR x) : Ev (fun k => qP.f k l) (keyR l) := by
 unfold qP.f keyR;refine Ev.bind (faults_is l hx) ?_
 by_cases h : zY l = 0
 · have hg := faults_good hx h
   rw [if_pos h]
   exact Ev.congr (fun k => by rw [if_pos h]; rfl) (key_l0 l hg.1.1 hg.1.2 hg.2 l.length 0 (by omega))
 · rw [if_neg h]
   exact Ev.congr (fun k => by rw [if_neg h]) (Ev.now _)
end Go.Proofs.YtggbhdcgfnjogaaGreatDoor.PlanLaw

