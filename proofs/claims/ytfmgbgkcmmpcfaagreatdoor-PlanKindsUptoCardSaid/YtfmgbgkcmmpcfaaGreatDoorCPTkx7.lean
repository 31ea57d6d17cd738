import Derived.Test.YtfmgbgkcmmpcfaaGreatDoorCPTkx0
import Derived.Test.YtfmgbgkcmmpcfaaGreatDoorCPTkx2
namespace Go.Proofs.YtfmgbgkcmmpcfaaGreatDoor.PTk
open Go.RowKit Go.Proofs.YtfmgbgkcmmpcfaaGreatDoorW.PrintWords Go.Proofs.YtfmgbgkcmmpcfaaGreatDoorW.PrintLast Go.Proofs.YtfmgbgkcmmpcfaaGreatDoorW.PrintMore
attribute [local go_sem] zp zC
set_option linter.unusedVariables false
set_option linter.unusedSimpArgs false
theorem wrapK {i : Int} (h0 : -9223372036854775808 ≤ i) (h1 : i ≤ 9223372036854775807) : wrap64 i = i := by
 unfold wrap64
 omega
def faultV (b : Nat) : List PanicEntry := [{ v := .iface 120 (.pointer (some ⟨b, 0, none⟩)), recovered := false }]
def xm (code : Int) (w : World) (e : Ending) (w' : World) : Prop := Below w.heap.size w w' ∧ ∃ b, e = .panicked (faultV b) ∧ w'.cell? ⟨b, 0, none⟩ = some (.int .i64 code)
theorem vp (code : Int) (w : World) : Calls Tryz.prog 31 #[.int .i64 code] w (xm code w) := by
 have HB := Aside0.mk (Below.refl w.heap.size w);have K := qL w (.cells #[.int .i64 code] 124)
 go_enter Tryz.func31, Tryz.ntmps31
 go_wp2
 exact ⟨rfl, q8 HB.out _, w.heap.size, rfl, (qa K 0).trans rfl⟩
def zQ (W : World) (v : Value) (k : Int) : Prop := ∃ T u K rv, v = .iface T u ∧ (∀ w, (method 424 T u "strata/plan.kindOf").run Tryz.prog w = .ok (K, rv) w) ∧ (∀ (args : Array Value) (w : World), (callFunc K args).run Tryz.prog w = .ok (.enter K args) w) ∧
 ∀ w, Below W.heap.size W w → Calls Tryz.prog K #[rv] w fun e w' => e = .returned (.int .i64 k) ∧ Below w.heap.size w w'
theorem zQ.below {W W' : World} {v : Value} {k : Int} (h : zQ W v k) (hb : Below W.heap.size W W') : zQ W' v k := by
 obtain ⟨T, u, K, rv, h1, h2, h3, h4⟩ := h
 exact ⟨T, u, K, rv, h1, h2, h3, fun w hw => h4 w (qy hb hb.size hw)⟩
theorem kind_literal (k i : Int) (s : ByteArray) (W : World) : zQ W (.iface 173 (.agg #[.int .i64 k, .int .i64 i, .string s])) k :=
 ⟨_, _, 235, .agg #[.int .i64 k, .int .i64 i, .string s], rfl, fun _ => by kernel_rfl, enters_of Tryz.func235 (by kernel_rfl) rfl, fun w _ => by
  go_enter Tryz.func235, Tryz.ntmps235
  go_wp2
  go_ret
  exact ⟨rfl, q8 (Below.refl _ _) _⟩⟩
theorem kind_column (a k : Int) (W : World) : zQ W (.iface 177 (.agg #[.int .i64 a, .int .i64 k])) k :=
 ⟨_, _, 236, .agg #[.int .i64 a, .int .i64 k], rfl, fun _ => by kernel_rfl, enters_of Tryz.func236 (by kernel_rfl) rfl, fun w _ => by
  go_enter Tryz.func236, Tryz.ntmps236
  go_wp2
  go_ret
  exact ⟨rfl, q8 (Below.refl _ _) _⟩⟩
theorem kind_operation (b : Nat) (k : Int) (W : World) (h : W.cell? ⟨b, 2, none⟩ = some (.int .i64 k)) : zQ W (.iface 178 (.pointer (some ⟨b, 0, none⟩))) k :=
 ⟨_, _, 237, .pointer (some ⟨b, 0, none⟩), rfl, fun _ => by kernel_rfl, enters_of Tryz.func237 (by kernel_rfl) rfl, fun w hw => by
  have h2 := qB hw h
  go_enter Tryz.func237, Tryz.ntmps237
  go_wp2
  go_ret
  exact ⟨rfl, Below.refl _ _⟩⟩
structure RowK (W : World) (A : Option Addr) (vs : List Value) (ks : List Int) : Prop where
 len : vs.length = ks.length
 cells : ∀ (i : Nat) v, vs[i]? = some v → ∃ ad, A = some ad ∧ W.cell? (ad.add i) = some v
 kinds : ∀ (i : Nat) v k, vs[i]? = some v → ks[i]? = some k → zQ W v k
theorem RowK.below {W W' : World} {A : Option Addr} {vs : List Value} {ks : List Int} (h : RowK W A vs ks) (hb : Below W.heap.size W W') : RowK W' A vs ks :=
 ⟨h.len, fun i v hv => by obtain ⟨ad, h1, h2⟩ := h.cells i v hv; exact ⟨ad, h1, qB hb h2⟩, fun i v k hv hk => (h.kinds i v k hv hk).below hb⟩
def fitK (want k : Int) : Bool := k == want || k == 0
set_option maxHeartbeats 4000000 in
set_option maxRecDepth 100000 in
theorem all_calls (want : Int) (A : Option Addr) (c : Nat) (vs : List Value) (ks : List Int) (w : World) (hR : RowK w A vs ks) (hn : ks.length ≤ 100) :
 Calls Tryz.prog 153 #[.int .i64 want, .slice A ks.length c] w fun e w' => (ks.all (fitK want) = true ∧ e = .returned (.tuple #[]) ∧ Below w.heap.size w w') ∨ (ks.all (fitK want) = false ∧ xm 163 w e w') := by
 have HR := Aside0.mk hR;have HN := Aside0.mk hn;clear hR hn
 go_enter Tryz.func153, Tryz.ntmps153
 go_wp2
 go_loopw [9] (fun v9 wr => ∃ i : Nat, i ≤ ks.length ∧ v9 = .int .i64 (i : Int) ∧ Aside0 ((ks.take i).all (fitK want) = true) ∧ Aside0 (Below w.heap.size w wr)) (fun v9 _ => ks.length - (intOf v9).toNat)
 case atStart => exact ⟨0, Nat.zero_le _, rfl, ⟨rfl⟩, ⟨Below.refl _ _⟩⟩
 case round =>
  obtain ⟨i, hi, rfl, HA, HB⟩ := hrel
  by_cases hlt : i < ks.length
  · have d1 : decide ((i : Int) < (ks.length : Int)) = true := decide_eq_true (by omega)
    have d9 : (i : Int) < (ks.length : Int) := by omega
    have hvl : i < vs.length := by rw [HR.out.len]; exact hlt
    obtain ⟨ad, hA, hc⟩ := HR.out.cells i _ (List.getElem?_eq_getElem hvl);obtain ⟨T, u, K, rv, hval, hmeth, henter, hcalls⟩ := (HR.out.kinds i _ _ (List.getElem?_eq_getElem hvl) (List.getElem?_eq_getElem hlt)).below HB.out;subst hA;rw [hval] at hc;have g0 := qB HB.out hc;have HC := Aside0.mk hcalls
    have hT : (ks.take (i + 1)).all (fitK want) = ((ks.take i).all (fitK want) && fitK want ks[i]) := by rw [List.take_succ_eq_append_getElem hlt, List.all_append]; simp
    rw [HA.out, Bool.true_and] at hT;have HT := Aside0.mk hT
    have HX := Aside0.mk (show fitK want ks[i] = false → ks.all (fitK want) = false from fun hf => by
     rw [List.all_eq_false]
     exact ⟨ks[i], List.getElem_mem hlt, by rw [hf]; decide⟩)
    have ei : wrap64 ((i : Int) + 1) = ((i + 1 : Nat) : Int) := by have := HN.out; rw [wrapK (by omega) (by omega)]; omega
    clear hcalls hT hval hc hvl;generalize ks[i]'hlt = k at *
    by_cases a : k = want
    · have e1 : (k != want) = false := by simpa using a
      have HF : Aside0 (fitK want k = true) := ⟨by unfold fitK; simp [a]⟩;clear a
      go_wp2_with (go_at_fn K; go_must (refine (HC.out _ (Below.refl _ _)).mono ?_; rintro e w1 ⟨rfl, hb⟩; have aa := Aside0.mk (qy HB.out HB.out.size hb); clear hb))
      go_roundw
      case rel => exact ⟨i + 1, by omega, by first | rw [ei] | rfl | go_num, ⟨by rw [HT.out, HF.out]⟩, aa⟩
      case measure => (try rw [ei]); simp [intOf]; omega
    · by_cases z : k = 0
      · have e1 : (k != want) = true := by simpa using a
        have e2 : (k != 0) = false := by simpa using z
        have HF : Aside0 (fitK want k = true) := ⟨by unfold fitK; simp [z]⟩;clear a z
        go_wp2_with (go_at_fn K; go_must (refine (HC.out _ (Below.refl _ _)).mono ?_; rintro e w1 ⟨rfl, hb⟩; have aa := Aside0.mk (qy HB.out HB.out.size hb); clear hb))
        go_roundw
        case rel => exact ⟨i + 1, by omega, by first | rw [ei] | rfl | go_num, ⟨by rw [HT.out, HF.out]⟩, aa⟩
        case measure => (try rw [ei]); simp [intOf]; omega
      · have e1 : (k != want) = true := by simpa using a
        have e2 : (k != 0) = true := by simpa using z
        have HF : Aside0 (fitK want k = false) := ⟨by unfold fitK; simp [a, z]⟩;clear a z
        go_wp2_with (first
         | (go_at_fn K; go_must (refine (HC.out _ (Below.refl _ _)).mono ?_; rintro e w1 ⟨rfl, hb⟩; have aa := Aside0.mk (qy HB.out HB.out.size hb); clear hb))
         | (go_at_call 31; go_must (refine (vp 163 _).mono ?_; rintro e w2 ⟨hb, b, rfl, hc⟩; have ae := Aside0.mk (qy aa.out aa.out.size hb); clear hb)))
        exact ⟨rfl, .inr ⟨HX.out HF.out, ae.out, b, rfl, hc⟩⟩
  · have d1 : decide ((i : Int) < (ks.length : Int)) = false := decide_eq_false (by omega)
    have HE : Aside0 (ks.all (fitK want) = true) := ⟨by have := HA.out; rw [List.take_of_length_le (by omega)] at this; exact this⟩;go_wp2
    go_end0
    exact .inl ⟨HE.out, rfl, HB.out⟩
def oneK : Int → List Int → Option Int
 | k, [] => some k
 | k, x :: r => if x = 0 ∨ x = k then oneK k r else if k = 0 then oneK x r else none
set_option maxHeartbeats 4000000 in
set_option maxRecDepth 100000 in
theorem one_calls (A : Option Addr) (c : Nat) (vs : List Value) (ks : List Int) (w : World) (hR : RowK w A vs ks) (hn : ks.length ≤ 100) :
 Calls Tryz.prog 154 #[.slice A ks.length c] w fun e w' => (∃ k, oneK 0 ks = some k ∧ e = .returned (.int .i64 k) ∧ Below w.heap.size w w') ∨ (oneK 0 ks = none ∧ xm 163 w e w') := by
 have HR := Aside0.mk hR;have HN := Aside0.mk hn;clear hR hn
 go_enter Tryz.func154, Tryz.ntmps154
 go_wp2
 go_loopw [3, 9] (fun v3 v9 wr => ∃ (i : Nat) (m : Int), i ≤ ks.length ∧ v9 = .int .i64 (i : Int) ∧ v3 = .int .i64 m ∧ Aside0 (oneK 0 ks = oneK m (ks.drop i)) ∧ Aside0 (Below w.heap.size w wr)) (fun _ v9 _ => ks.length - (intOf v9).toNat)
 case atStart => exact ⟨0, 0, Nat.zero_le _, rfl, rfl, ⟨rfl⟩, ⟨Below.refl _ _⟩⟩
 case round =>
  obtain ⟨i, m, hi, rfl, rfl, HA, HB⟩ := hrel
  by_cases hlt : i < ks.length
  · have d1 : decide ((i : Int) < (ks.length : Int)) = true := decide_eq_true (by omega)
    have d9 : (i : Int) < (ks.length : Int) := by omega
    have hvl : i < vs.length := by rw [HR.out.len]; exact hlt
    obtain ⟨ad, hA, hc⟩ := HR.out.cells i _ (List.getElem?_eq_getElem hvl);obtain ⟨T, u, K, rv, hval, hmeth, henter, hcalls⟩ := (HR.out.kinds i _ _ (List.getElem?_eq_getElem hvl) (List.getElem?_eq_getElem hlt)).below HB.out;subst hA;rw [hval] at hc;have g0 := qB HB.out hc;have HC := Aside0.mk hcalls;have hT := HA.out;rw [List.drop_eq_getElem_cons hlt] at hT;simp only [oneK] at hT
    have ei : wrap64 ((i : Int) + 1) = ((i + 1 : Nat) : Int) := by have := HN.out; rw [wrapK (by omega) (by omega)]; omega
    have HT := Aside0.mk hT;clear hcalls hT hval hc hvl HA;generalize ks[i]'hlt = k at *
    by_cases z : k = 0
    · have e1 : (k == 0) = true := by simpa using z
      have HF := Aside0.mk (HT.out.trans (if_pos (.inl z)));clear z HT
      go_wp2_with (go_at_fn K; go_must (refine (HC.out _ (Below.refl _ _)).mono ?_; rintro e w1 ⟨rfl, hb⟩; have aa := Aside0.mk (qy HB.out HB.out.size hb); clear hb))
      go_roundw
      case rel => exact ⟨i + 1, m, by omega, by first | rw [ei] | rfl | go_num, rfl, HF, aa⟩
      case measure => (try rw [ei]); simp [intOf]; omega
    · have e1 : (k == 0) = false := by simpa using z
      by_cases a : k = m
      · have e2 : (k == m) = true := by simpa using a
        have HF := Aside0.mk (HT.out.trans (if_pos (.inr a)));clear a z HT
        go_wp2_with (go_at_fn K; go_must (refine (HC.out _ (Below.refl _ _)).mono ?_; rintro e w1 ⟨rfl, hb⟩; have aa := Aside0.mk (qy HB.out HB.out.size hb); clear hb))
        go_roundw
        case rel => exact ⟨i + 1, m, by omega, by first | rw [ei] | rfl | go_num, rfl, HF, aa⟩
        case measure => (try rw [ei]); simp [intOf]; omega
      · have e2 : (k == m) = false := by simpa using a
        have ab := Aside0.mk (HT.out.trans (if_neg (by rintro (h | h); exact z h; exact a h)))
        by_cases y : m = 0
        · have e3 : (m == 0) = true := by simpa using y
          have HF := Aside0.mk (ab.out.trans (if_pos y));clear a z y HT ab
          go_wp2_with (go_at_fn K; go_must (refine (HC.out _ (Below.refl _ _)).mono ?_; rintro e w1 ⟨rfl, hb⟩; have aa := Aside0.mk (qy HB.out HB.out.size hb); clear hb))
          go_roundw
          case rel => exact ⟨i + 1, k, by omega, by first | rw [ei] | rfl | go_num, rfl, HF, aa⟩
          case measure => (try rw [ei]); simp [intOf]; omega
        · have e3 : (m == 0) = false := by simpa using y
          have HF := Aside0.mk (ab.out.trans (if_neg y));clear a z y HT ab
          go_wp2_with (first
           | (go_at_fn K; go_must (refine (HC.out _ (Below.refl _ _)).mono ?_; rintro e w1 ⟨rfl, hb⟩; have aa := Aside0.mk (qy HB.out HB.out.size hb); clear hb))
           | (go_at_call 31; go_must (refine (vp 163 _).mono ?_; rintro e w2 ⟨hb, b, rfl, hc⟩; have ae := Aside0.mk (qy aa.out aa.out.size hb); clear hb)))
          exact ⟨rfl, .inr ⟨HF.out, ae.out, b, rfl, hc⟩⟩
  · have d1 : decide ((i : Int) < (ks.length : Int)) = false := decide_eq_false (by omega)
    have HE : Aside0 (oneK 0 ks = some m) := ⟨by have := HA.out; rw [List.drop_of_length_le (by omega)] at this; exact this⟩;go_wp2
    go_ret
    exact .inl ⟨m, HE.out, rfl, HB.out⟩
def KOut (R : Option Int) (w : World) (e : Ending) (w' : World) : Prop := (∃ k, R = some k ∧ e = .returned (.int .i64 k) ∧ Below w.heap.size w w') ∨ (R = none ∧ xm 163 w e w')
def xu (want give : Int) (ks : List Int) : Option Int := if ks.all (fitK want) = true then some give else none
def callK (s : ByteArray) (ks : List Int) : Option Int :=
 if s.toList = ([97, 98, 115] : List UInt8) then xu 2 2 ks
 else if s.toList = ([108, 101, 110, 103, 116, 104] : List UInt8) then xu 3 2 ks
 else if s.toList = ([108, 111, 119, 101, 114] : List UInt8) then xu 3 3 ks
 else if s.toList = ([117, 112, 112, 101, 114] : List UInt8) then xu 3 3 ks
 else if s.toList = ([115, 117, 98, 115, 116, 114] : List UInt8) then (if fitK 3 (ks.headD 0) = true then xu 2 3 (ks.drop 1) else none)
 else oneK 0 ks
theorem vC {want : Int} {A : Option Addr} {c : Nat} {vs : List Value} {ks : List Int} {w : World} (hR : RowK w A vs ks) (hn : ks.length ≤ 100) (b : Bool) (hb : ks.all (fitK want) = b) :
 Calls Tryz.prog 153 #[.int .i64 want, .slice A ks.length c] w fun e w' => (b = true ∧ e = .returned (.tuple #[]) ∧ Below w.heap.size w w') ∨ (b = false ∧ xm 163 w e w') := by
 subst hb
 exact all_calls want A c vs ks w hR hn
set_option maxHeartbeats 4000000 in
set_option maxRecDepth 100000 in
theorem callK_simple (s : ByteArray) (A : Option Addr) (c : Nat) (vs : List Value) (ks : List Int) (w : World) (hR : RowK w A vs ks) (hn : ks.length ≤ 100) (hs : ¬ s.toList = ([115, 117, 98, 115, 116, 114] : List UInt8)) :
 Calls Tryz.prog 155 #[.string s, .slice A ks.length c] w (KOut (callK s ks) w) := by
 have HR := Aside0.mk hR;have HN := Aside0.mk hn
 have c5 : (s.toList == ([115, 117, 98, 115, 116, 114] : List UInt8)) = false := by simpa using hs
 clear hR hn;unfold callK
 by_cases a1 : s.toList = ([97, 98, 115] : List UInt8)
 · have c1 : (s.toList == ([97, 98, 115] : List UInt8)) = true := by simpa using a1
   rw [if_pos a1];clear a1 hs;unfold xu;obtain ⟨B, hB⟩ : ∃ B, ks.all (fitK 2) = B := ⟨_, rfl⟩;have HO := Aside0.mk (vC (want := 2) (c := c) HR.out HN.out B hB);rw [hB];clear hB
   cases B with
   | true =>
    rw [if_pos rfl]
    go_enter Tryz.func155, Tryz.ntmps155
    go_wp2_with (first | (go_at_call 153; go_must (refine HO.out.mono ?_; rintro e w1 (⟨_, rfl, hb⟩ | ⟨hk, _⟩); rotate_left; (exact absurd hk (by decide)); (have aa := Aside0.mk hb; clear hb))))
    go_ret
    exact .inl ⟨_, rfl, rfl, aa.out⟩
   | false =>
    rw [if_neg (by decide)]
    go_enter Tryz.func155, Tryz.ntmps155
    go_wp2_with (first | (go_at_call 153; go_must (refine HO.out.mono ?_; rintro e w1 (⟨hk, _⟩ | ⟨_, hb, b, rfl, hc⟩); (exact absurd hk (by decide)))))
    exact ⟨rfl, .inr ⟨rfl, hb, b, rfl, hc⟩⟩
 rw [if_neg a1]
 have c1 : (s.toList == ([97, 98, 115] : List UInt8)) = false := by simpa using a1
 by_cases a2 : s.toList = ([108, 101, 110, 103, 116, 104] : List UInt8)
 · have c2 : (s.toList == ([108, 101, 110, 103, 116, 104] : List UInt8)) = true := by simpa using a2
   rw [if_pos a2];clear a1 a2 hs;unfold xu;obtain ⟨B, hB⟩ : ∃ B, ks.all (fitK 3) = B := ⟨_, rfl⟩;have HO := Aside0.mk (vC (want := 3) (c := c) HR.out HN.out B hB);rw [hB];clear hB
   cases B with
   | true =>
    rw [if_pos rfl]
    go_enter Tryz.func155, Tryz.ntmps155
    go_wp2_with (first | (go_at_call 153; go_must (refine HO.out.mono ?_; rintro e w1 (⟨_, rfl, hb⟩ | ⟨hk, _⟩); rotate_left; (exact absurd hk (by decide)); (have aa := Aside0.mk hb; clear hb))))
    go_ret
    exact .inl ⟨_, rfl, rfl, aa.out⟩
   | false =>
    rw [if_neg (by decide)]
    go_enter Tryz.func155, Tryz.ntmps155
    go_wp2_with (first | (go_at_call 153; go_must (refine HO.out.mono ?_; rintro e w1 (⟨hk, _⟩ | ⟨_, hb, b, rfl, hc⟩); (exact absurd hk (by decide)))))
    exact ⟨rfl, .inr ⟨rfl, hb, b, rfl, hc⟩⟩
 rw [if_neg a2]
 have c2 : (s.toList == ([108, 101, 110, 103, 116, 104] : List UInt8)) = false := by simpa using a2
 by_cases a3 : s.toList = ([108, 111, 119, 101, 114] : List UInt8)
 · have c3 : (s.toList == ([108, 111, 119, 101, 114] : List UInt8)) = true := by simpa using a3
   rw [if_pos a3];clear a1 a2 a3 hs;unfold xu;obtain ⟨B, hB⟩ : ∃ B, ks.all (fitK 3) = B := ⟨_, rfl⟩;have HO := Aside0.mk (vC (want := 3) (c := c) HR.out HN.out B hB);rw [hB];clear hB
   cases B with
   | true =>
    rw [if_pos rfl]
    go_enter Tryz.func155, Tryz.ntmps155
    go_wp2_with (first | (go_at_call 153; go_must (refine HO.out.mono ?_; rintro e w1 (⟨_, rfl, hb⟩ | ⟨hk, _⟩); rotate_left; (exact absurd hk (by decide)); (have aa := Aside0.mk hb; clear hb))))
    go_ret
    exact .inl ⟨_, rfl, rfl, aa.out⟩
   | false =>
    rw [if_neg (by decide)]
    go_enter Tryz.func155, Tryz.ntmps155
    go_wp2_with (first | (go_at_call 153; go_must (refine HO.out.mono ?_; rintro e w1 (⟨hk, _⟩ | ⟨_, hb, b, rfl, hc⟩); (exact absurd hk (by decide)))))
    exact ⟨rfl, .inr ⟨rfl, hb, b, rfl, hc⟩⟩
 rw [if_neg a3]
 have c3 : (s.toList == ([108, 111, 119, 101, 114] : List UInt8)) = false := by simpa using a3
 by_cases a4 : s.toList = ([117, 112, 112, 101, 114] : List UInt8)
 · have c4 : (s.toList == ([117, 112, 112, 101, 114] : List UInt8)) = true := by simpa using a4
   rw [if_pos a4];clear a1 a2 a3 a4 hs;unfold xu;obtain ⟨B, hB⟩ : ∃ B, ks.all (fitK 3) = B := ⟨_, rfl⟩;have HO := Aside0.mk (vC (want := 3) (c := c) HR.out HN.out B hB);rw [hB];clear hB
   cases B with
   | true =>
    rw [if_pos rfl]
    go_enter Tryz.func155, Tryz.ntmps155
    go_wp2_with (first | (go_at_call 153; go_must (refine HO.out.mono ?_; rintro e w1 (⟨_, rfl, hb⟩ | ⟨hk, _⟩); rotate_left; (exact absurd hk (by decide)); (have aa := Aside0.mk hb; clear hb))))
    go_ret
    exact .inl ⟨_, rfl, rfl, aa.out⟩
   | false =>
    rw [if_neg (by decide)]
    go_enter Tryz.func155, Tryz.ntmps155
    go_wp2_with (first | (go_at_call 153; go_must (refine HO.out.mono ?_; rintro e w1 (⟨hk, _⟩ | ⟨_, hb, b, rfl, hc⟩); (exact absurd hk (by decide)))))
    exact ⟨rfl, .inr ⟨rfl, hb, b, rfl, hc⟩⟩
 rw [if_neg a4, if_neg hs]
 have c4 : (s.toList == ([117, 112, 112, 101, 114] : List UInt8)) = false := by simpa using a4
 clear a1 a2 a3 a4 hs;obtain ⟨R, hRR⟩ : ∃ R, R = oneK 0 ks := ⟨_, rfl⟩;have HO := Aside0.mk (one_calls A c vs ks w HR.out HN.out);rw [← hRR] at HO ⊢;clear hRR
 cases R with
 | some k =>
  go_enter Tryz.func155, Tryz.ntmps155
  go_wp2_with (first | (go_at_call 154; go_must (refine HO.out.mono ?_; rintro e w1 (⟨k2, hk, rfl, hb⟩ | ⟨hk, _⟩); rotate_left; (exact absurd hk (by simp)); (injection hk with hk; subst hk; have aa := Aside0.mk hb; clear hb))))
  go_ret
  exact .inl ⟨k, rfl, rfl, aa.out⟩
 | none =>
  go_enter Tryz.func155, Tryz.ntmps155
  go_wp2_with (first | (go_at_call 154; go_must (refine HO.out.mono ?_; rintro e w1 (⟨k2, hk, _⟩ | ⟨hk, hb, b, rfl, hc⟩); (exact absurd hk (by simp)))))
  exact ⟨rfl, .inr ⟨rfl, hb, b, rfl, hc⟩⟩
theorem add_two (a : Addr) (m n : Nat) : (a.add m).add n = a.add (m + n) := by
 unfold Addr.add
 by_cases h1 : m = 0
 · subst h1; simp
 · by_cases h2 : n = 0
   · subst h2; simp
   · rw [if_neg h1, if_neg h2, if_neg (by omega)]
     simp [Nat.add_assoc]
theorem infoNode_ex : ∃ i, Tryz.prog.info? 81 = some i ∧ i.size = 1 := by
 have q : (Tryz.prog.info? 81).map (·.size) = some 1 := by kernel_rfl
 cases hh : Tryz.prog.info? 81 with
 | none => rw [hh] at q; cases q
 | some i => exact ⟨i, rfl, by rw [hh] at q; simpa using q⟩
theorem RowK.drop {W : World} {ad : Addr} {vs : List Value} {ks : List Int} (h : RowK W (some ad) vs ks) (q : Nat) : RowK W (some (ad.add q)) (vs.drop q) (ks.drop q) :=
 ⟨by rw [List.length_drop, List.length_drop, h.len], fun i v hv => by
  rw [List.getElem?_drop] at hv;obtain ⟨a, ha, hc⟩ := h.cells _ v hv
  injection ha with ha
  subst ha
  exact ⟨_, rfl, by rw [add_two]; exact hc⟩, fun i v k hv hk => by
  rw [List.getElem?_drop] at hv hk
  exact h.kinds _ v k hv hk⟩
set_option maxHeartbeats 4000000 in
set_option maxRecDepth 100000 in
theorem substr_ok (s : ByteArray) (ad : Addr) (n c : Nat) (T : TypeId) (u : Value) (w : World) (c1 : (s.toList == ([97, 98, 115] : List UInt8)) = false) (c2 : (s.toList == ([108, 101, 110, 103, 116, 104] : List UInt8)) = false) (c3 : (s.toList == ([108, 111, 119, 101, 114] : List UInt8)) = false) (c4 : (s.toList == ([117, 112, 112, 101, 114] : List UInt8)) = false) (c5 : (s.toList == ([115, 117, 98, 115, 116, 114] : List UInt8)) = true) (hcell : w.cell? ad = some (.iface T u)) (d9 : (0 : Int) < (n : Int)) (HA : Aside0 (Calls Tryz.prog 153 #[.int .i64 3, .slice (some ⟨w.heap.size, 0, none⟩) 1 1] (w.alloc (.cells #[.iface T u] 81)) fun e w' => e = .returned (.tuple #[]) ∧ Below w.heap.size w w')) (hcut : ∀ W, (Instr.slice 126 (.slice (some ad) n c) (some (.int .i64 1)) none none).run Tryz.prog W = .ok (.slice (some (ad.add 1)) (n - 1) (c - 1)) W) (HC : Aside0 (∀ W, Below w.heap.size w W → Calls Tryz.prog 153 #[.int .i64 2, .slice (some (ad.add 1)) (n - 1) (c - 1)] W (fun e w' => e = .returned (.tuple #[]) ∧ Below w.heap.size w w'))) : Calls Tryz.prog 155 #[.string s, .slice (some ad) n c] w (fun e w' => e = .returned (.int .i64 3) ∧ Below w.heap.size w w') := by
 go_enter Tryz.func155, Tryz.ntmps155
 go_upto_region 14 with (first | (go_at_call 153; go_must (refine HA.out.mono ?_; rintro e w1 ⟨rfl, hb⟩; have aa := Aside0.mk hb; clear hb)))
 go_wp2_with (first | (go_at_call 153; go_must (refine (HC.out _ aa.out).mono ?_; rintro e w2 ⟨rfl, hb⟩; have ab := Aside0.mk hb; clear hb)))
 go_ret
 exact ⟨rfl, ab.out⟩
set_option maxHeartbeats 4000000 in
set_option maxRecDepth 100000 in
theorem substr_no2 (s : ByteArray) (ad : Addr) (n c : Nat) (T : TypeId) (u : Value) (w : World) (c1 : (s.toList == ([97, 98, 115] : List UInt8)) = false) (c2 : (s.toList == ([108, 101, 110, 103, 116, 104] : List UInt8)) = false) (c3 : (s.toList == ([108, 111, 119, 101, 114] : List UInt8)) = false) (c4 : (s.toList == ([117, 112, 112, 101, 114] : List UInt8)) = false) (c5 : (s.toList == ([115, 117, 98, 115, 116, 114] : List UInt8)) = true) (hcell : w.cell? ad = some (.iface T u)) (d9 : (0 : Int) < (n : Int)) (HA : Aside0 (Calls Tryz.prog 153 #[.int .i64 3, .slice (some ⟨w.heap.size, 0, none⟩) 1 1] (w.alloc (.cells #[.iface T u] 81)) fun e w' => e = .returned (.tuple #[]) ∧ Below w.heap.size w w')) (hcut : ∀ W, (Instr.slice 126 (.slice (some ad) n c) (some (.int .i64 1)) none none).run Tryz.prog W = .ok (.slice (some (ad.add 1)) (n - 1) (c - 1)) W) (HC : Aside0 (∀ W, Below w.heap.size w W → Calls Tryz.prog 153 #[.int .i64 2, .slice (some (ad.add 1)) (n - 1) (c - 1)] W (xm 163 w))) : Calls Tryz.prog 155 #[.string s, .slice (some ad) n c] w (xm 163 w) := by
 go_enter Tryz.func155, Tryz.ntmps155
 go_upto_region 14 with (first | (go_at_call 153; go_must (refine HA.out.mono ?_; rintro e w1 ⟨rfl, hb⟩; have aa := Aside0.mk hb; clear hb)))
 go_wp2_with (first | (go_at_call 153; go_must (refine (HC.out _ aa.out).mono ?_; rintro e w2 ⟨hb, b, rfl, hc⟩)))
 exact ⟨rfl, hb, b, rfl, hc⟩
set_option maxHeartbeats 4000000 in
set_option maxRecDepth 100000 in
theorem substr_no1 (s : ByteArray) (ad : Addr) (n c : Nat) (T : TypeId) (u : Value) (w : World) (c1 : (s.toList == ([97, 98, 115] : List UInt8)) = false) (c2 : (s.toList == ([108, 101, 110, 103, 116, 104] : List UInt8)) = false) (c3 : (s.toList == ([108, 111, 119, 101, 114] : List UInt8)) = false) (c4 : (s.toList == ([117, 112, 112, 101, 114] : List UInt8)) = false) (c5 : (s.toList == ([115, 117, 98, 115, 116, 114] : List UInt8)) = true) (hcell : w.cell? ad = some (.iface T u)) (d9 : (0 : Int) < (n : Int)) (HA : Aside0 (Calls Tryz.prog 153 #[.int .i64 3, .slice (some ⟨w.heap.size, 0, none⟩) 1 1] (w.alloc (.cells #[.iface T u] 81)) (xm 163 w)))  : Calls Tryz.prog 155 #[.string s, .slice (some ad) n c] w (xm 163 w) := by
 go_enter Tryz.func155, Tryz.ntmps155
 go_wp2_with (first | (go_at_call 153; go_must (refine HA.out.mono ?_; rintro e w1 ⟨hb, b, rfl, hc⟩)))
 exact ⟨rfl, hb, b, rfl, hc⟩
theorem xm.from {code : Int} {w w1 : World} (hb : Below w.heap.size w w1) {e : Ending} {w' : World} (h : xm code w1 e w') : xm code w e w' := ⟨qy hb hb.size h.1, h.2⟩
theorem callK_substr (s : ByteArray) (A : Option Addr) (c : Nat) (vs : List Value) (ks : List Int) (w : World) (hR : RowK w A vs ks) (hn : ks.length ≤ 100) (hs : s.toList = ([115, 117, 98, 115, 116, 114] : List UInt8)) (hl : 2 ≤ ks.length) (hc : ks.length ≤ c) :
 Calls Tryz.prog 155 #[.string s, .slice A ks.length c] w (KOut (callK s ks) w) := by
 have hcall : callK s ks = if fitK 3 (ks.headD 0) = true then xu 2 3 (ks.drop 1) else none := by
  unfold callK;rw [if_neg (by rw [hs]; decide), if_neg (by rw [hs]; decide), if_neg (by rw [hs]; decide), if_neg (by rw [hs]; decide), if_pos hs]
 rw [hcall]
 have c1 : (s.toList == ([97, 98, 115] : List UInt8)) = false := by rw [hs]; decide
 have c2 : (s.toList == ([108, 101, 110, 103, 116, 104] : List UInt8)) = false := by rw [hs]; decide
 have c3 : (s.toList == ([108, 111, 119, 101, 114] : List UInt8)) = false := by rw [hs]; decide
 have c4 : (s.toList == ([117, 112, 112, 101, 114] : List UInt8)) = false := by rw [hs]; decide
 have c5 : (s.toList == ([115, 117, 98, 115, 116, 114] : List UInt8)) = true := by rw [hs]; decide
 have ac : 0 < vs.length := by rw [hR.len]; omega
 obtain ⟨ad, rfl, hcell⟩ := hR.cells 0 _ (List.getElem?_eq_getElem ac);have af : zQ w vs[0] (ks.headD 0) := hR.kinds 0 _ _ (List.getElem?_eq_getElem ac) (by rw [List.headD_eq_head?_getD, List.head?_eq_getElem?, List.getElem?_eq_getElem (by omega)]; rfl);rw [Addr.add_zero'] at hcell;obtain ⟨T, u, K, rv, hval, ag, ah, ai⟩ := af;have aj : zQ w (.iface T u) (ks.headD 0) := ⟨T, u, K, rv, rfl, ag, ah, ai⟩;rw [hval] at hcell;obtain ⟨it, hit, hsz⟩ := infoNode_ex;have hcut := vE (P := Tryz.prog) 126 81 .i64 (by kernel_rfl) hit 1 hsz (some ad) ks.length c 1 (by omega) (by omega);have e1 : (1 : Int).toNat = 1 := rfl;rw [e1, if_neg (by omega)] at hcut;simp only [Option.map_some, Nat.mul_one] at hcut;have hlen : (ks.drop 1).length = ks.length - 1 := List.length_drop;have aa := q8 (Below.refl w.heap.size w) (.cells #[.iface T u] 81)
 have hrow : RowK (w.alloc (.cells #[.iface T u] 81)) (some ⟨w.heap.size, 0, none⟩) [.iface T u] [ks.headD 0] :=
  ⟨rfl, fun i v hv => by
   cases i with
   | zero => injection hv with hv; subst hv; exact ⟨_, rfl, by rw [Addr.add_zero']; exact (qa (qL w _) 0).trans rfl⟩
   | succ i => simp at hv, fun i v k hv hk => by
   cases i with
   | zero => injection hv with hv; injection hk with hk; subst hv hk; exact aj.below aa
   | succ i => simp at hv⟩
 have hone : ∀ B, fitK 3 (ks.headD 0) = B → ([ks.headD 0] : List Int).all (fitK 3) = B := fun B h => by rw [← h]; simp
 have h2 : ∀ W, Below w.heap.size w W → ∀ B, (ks.drop 1).all (fitK 2) = B → Calls Tryz.prog 153 #[.int .i64 2, .slice (some (ad.add 1)) (ks.length - 1) (c - 1)] W fun e w' => (B = true ∧ e = .returned (.tuple #[]) ∧ Below W.heap.size W w') ∨ (B = false ∧ xm 163 W e w') := fun W hW B hB => by
  have h := vC (want := 2) (c := c - 1) ((hR.drop 1).below hW) (by omega) B hB;rw [hlen] at h
  exact h
 obtain ⟨B, hB⟩ : ∃ B, fitK 3 (ks.headD 0) = B := ⟨_, rfl⟩;have h1 := vC (want := 3) (c := 1) hrow (by simp) B (hone B hB);rw [hB]
 cases B with
 | false =>
  rw [if_neg (by decide)]
  exact (substr_no1 s ad ks.length c T u w c1 c2 c3 c4 c5 hcell (by omega) ⟨h1.mono (by
   rintro e w' (⟨h, _⟩ | ⟨_, h⟩)
   · cases h
   · exact xm.from aa h)⟩).mono (fun e w' h => .inr ⟨rfl, h⟩)
 | true =>
  rw [if_pos rfl]
  have h1 : Calls Tryz.prog 153 #[.int .i64 3, .slice (some ⟨w.heap.size, 0, none⟩) 1 1] (w.alloc (.cells #[.iface T u] 81)) fun e w' => e = .returned (.tuple #[]) ∧ Below w.heap.size w w' := h1.mono (by
   rintro e w' (⟨_, h, hb⟩ | ⟨h, _⟩)
   · exact ⟨h, qy aa aa.size hb⟩
   · cases h)
  unfold xu;obtain ⟨B2, ab⟩ : ∃ B2, (ks.drop 1).all (fitK 2) = B2 := ⟨_, rfl⟩;rw [ab]
  cases B2 with
  | true =>
   rw [if_pos rfl]
   exact (substr_ok s ad ks.length c T u w c1 c2 c3 c4 c5 hcell (by omega) ⟨h1⟩ hcut ⟨fun W hW => (h2 W hW true ab).mono (by
    rintro e w' (⟨_, h, hb⟩ | ⟨h, _⟩)
    · exact ⟨h, qy hW hW.size hb⟩
    · cases h)⟩).mono (fun e w' h => .inl ⟨3, rfl, h⟩)
  | false =>
   rw [if_neg (by decide)]
   exact (substr_no2 s ad ks.length c T u w c1 c2 c3 c4 c5 hcell (by omega) ⟨h1⟩ hcut ⟨fun W hW => (h2 W hW false ab).mono (by
    rintro e w' (⟨h, _⟩ | ⟨_, h⟩)
    · cases h
    · exact xm.from hW h)⟩).mono (fun e w' h => .inr ⟨rfl, h⟩)
theorem all_one (want k : Int) (T : TypeId) (u : Value) (W : World) (h : zQ W (.iface T u) k) (B : Bool) (hB : fitK want k = B) :
 Calls Tryz.prog 153 #[.int .i64 want, .slice (some ⟨W.heap.size, 0, none⟩) 1 1] (W.alloc (.cells #[.iface T u] 81)) fun e w' => (B = true ∧ e = .returned (.tuple #[]) ∧ Below W.heap.size W w') ∨ (B = false ∧ xm 163 W e w') := by
 have aa := q8 (Below.refl W.heap.size W) (.cells #[.iface T u] 81)
 have hrow : RowK (W.alloc (.cells #[.iface T u] 81)) (some ⟨W.heap.size, 0, none⟩) [.iface T u] [k] :=
  ⟨rfl, fun i v hv => by
   cases i with
   | zero => injection hv with hv; subst hv; exact ⟨_, rfl, by rw [Addr.add_zero']; exact (qa (qL W _) 0).trans rfl⟩
   | succ i => simp at hv, fun i v k hv hk => by
   cases i with
   | zero => injection hv with hv; injection hk with hk; subst hv hk; exact h.below aa
   | succ i => simp at hv⟩
 refine (vC (want := want) (c := 1) hrow (by simp) B (by rw [← hB]; simp)).mono ?_
 rintro e w' (⟨h1, h2, h3⟩ | ⟨h1, h2⟩)
 · exact .inl ⟨h1, h2, qy aa aa.size h3⟩
 · exact .inr ⟨h1, xm.from aa h2⟩
theorem callK_calls (s : ByteArray) (A : Option Addr) (c : Nat) (vs : List Value) (ks : List Int) (w : World) (hR : RowK w A vs ks) (hn : ks.length ≤ 100) (hl : s.toList = ([115, 117, 98, 115, 116, 114] : List UInt8) → 2 ≤ ks.length) (hc : ks.length ≤ c) :
 Calls Tryz.prog 155 #[.string s, .slice A ks.length c] w (KOut (callK s ks) w) := by
 by_cases hs : s.toList = ([115, 117, 98, 115, 116, 114] : List UInt8)
 · exact callK_substr s A c vs ks w hR hn hs (hl hs) hc
 · exact callK_simple s A c vs ks w hR hn hs
abbrev xj (op f1 f2 : Int) (s : ByteArray) : Value := .agg #[.int .i64 op, .int .i64 f1, .int .i64 f2, .string s]
abbrev nodeW (w : World) (op f1 f2 : Int) (s : ByteArray) : World := w.alloc (.cells #[.int .i64 op, .int .i64 f1, .int .i64 f2, .string s] 86)
def vq (op want give : Int) : Prop := (op = 7 ∧ want = 2 ∧ give = 2) ∨ (op = 11 ∧ want = 2 ∧ give = 2) ∨ (op = 12 ∧ want = 2 ∧ give = 2) ∨ (op = 13 ∧ want = 2 ∧ give = 2) ∨ (op = 14 ∧ want = 2 ∧ give = 2) ∨ (op = 15 ∧ want = 2 ∧ give = 2) ∨ (op = 16 ∧ want = 3 ∧ give = 3) ∨ (op = 8 ∧ want = 1 ∧ give = 1) ∨ (op = 23 ∧ want = 1 ∧ give = 1) ∨ (op = 24 ∧ want = 1 ∧ give = 1) ∨ (op = 25 ∧ want = 3 ∧ give = 1)
def inOne (op : Int) : Prop := op = 17 ∨ op = 18 ∨ op = 19 ∨ op = 20 ∨ op = 21 ∨ op = 22 ∨ op = 26 ∨ op = 27
abbrev RetB (v : Value) (w : World) (e : Ending) (w' : World) : Prop := e = .returned v ∧ Below w.heap.size w w'
set_option maxHeartbeats 4000000 in
set_option maxRecDepth 100000 in
theorem kind_all_ok (op want give f1 f2 : Int) (s : ByteArray) (A : Option Addr) (n c : Nat) (w : World) (h : vq op want give)
 (HA : Aside0 (Calls Tryz.prog 153 #[.int .i64 want, .slice A n c] (nodeW w op f1 f2 s) (RetB (.tuple #[]) w))) :
 Calls Tryz.prog 108 #[xj op f1 f2 s, .slice A n c] w (RetB (.int .i64 give) w) := by
 unfold vq at h
 rcases h with ⟨rfl, rfl, rfl⟩ | ⟨rfl, rfl, rfl⟩ | ⟨rfl, rfl, rfl⟩ | ⟨rfl, rfl, rfl⟩ | ⟨rfl, rfl, rfl⟩ | ⟨rfl, rfl, rfl⟩ | ⟨rfl, rfl, rfl⟩ | ⟨rfl, rfl, rfl⟩ | ⟨rfl, rfl, rfl⟩ | ⟨rfl, rfl, rfl⟩ | ⟨rfl, rfl, rfl⟩
 all_goals (
  go_enter Tryz.func108, Tryz.ntmps108
  go_wp2_with (first | (go_at_call 153; go_must (refine HA.out.mono ?_; rintro e w1 ⟨rfl, hb⟩; have aa := Aside0.mk hb; clear hb)))
  go_ret
  exact ⟨rfl, aa.out⟩)
set_option maxHeartbeats 4000000 in
set_option maxRecDepth 100000 in
theorem kind_all_no (op want give f1 f2 : Int) (s : ByteArray) (A : Option Addr) (n c : Nat) (w : World) (h : vq op want give)
 (HA : Aside0 (Calls Tryz.prog 153 #[.int .i64 want, .slice A n c] (nodeW w op f1 f2 s) (xm 163 w))) :
 Calls Tryz.prog 108 #[xj op f1 f2 s, .slice A n c] w (xm 163 w) := by
 unfold vq at h
 rcases h with ⟨rfl, rfl, rfl⟩ | ⟨rfl, rfl, rfl⟩ | ⟨rfl, rfl, rfl⟩ | ⟨rfl, rfl, rfl⟩ | ⟨rfl, rfl, rfl⟩ | ⟨rfl, rfl, rfl⟩ | ⟨rfl, rfl, rfl⟩ | ⟨rfl, rfl, rfl⟩ | ⟨rfl, rfl, rfl⟩ | ⟨rfl, rfl, rfl⟩ | ⟨rfl, rfl, rfl⟩
 all_goals (
  go_enter Tryz.func108, Tryz.ntmps108
  go_wp2_with (first | (go_at_call 153; go_must (refine HA.out.mono ?_; rintro e w1 ⟨hb, b, rfl, hc⟩)))
  exact ⟨rfl, hb, b, rfl, hc⟩)
set_option maxHeartbeats 4000000 in
set_option maxRecDepth 100000 in
theorem kind_one_ok (op k f1 f2 : Int) (s : ByteArray) (A : Option Addr) (n c : Nat) (w : World) (h : inOne op)
 (HA : Aside0 (Calls Tryz.prog 154 #[.slice A n c] (nodeW w op f1 f2 s) (RetB (.int .i64 k) w))) :
 Calls Tryz.prog 108 #[xj op f1 f2 s, .slice A n c] w (RetB (.int .i64 1) w) := by
 unfold inOne at h
 rcases h with rfl | rfl | rfl | rfl | rfl | rfl | rfl | rfl
 all_goals (
  go_enter Tryz.func108, Tryz.ntmps108
  go_wp2_with (first | (go_at_call 154; go_must (refine HA.out.mono ?_; rintro e w1 ⟨rfl, hb⟩; have aa := Aside0.mk hb; clear hb)))
  go_ret
  exact ⟨rfl, aa.out⟩)
set_option maxHeartbeats 4000000 in
set_option maxRecDepth 100000 in
theorem kind_one_no (op f1 f2 : Int) (s : ByteArray) (A : Option Addr) (n c : Nat) (w : World) (h : inOne op)
 (HA : Aside0 (Calls Tryz.prog 154 #[.slice A n c] (nodeW w op f1 f2 s) (xm 163 w))) :
 Calls Tryz.prog 108 #[xj op f1 f2 s, .slice A n c] w (xm 163 w) := by
 unfold inOne at h
 rcases h with rfl | rfl | rfl | rfl | rfl | rfl | rfl | rfl
 all_goals (
  go_enter Tryz.func108, Tryz.ntmps108
  go_wp2_with (first | (go_at_call 154; go_must (refine HA.out.mono ?_; rintro e w1 ⟨hb, b, rfl, hc⟩)))
  exact ⟨rfl, hb, b, rfl, hc⟩)
set_option maxHeartbeats 4000000 in
set_option maxRecDepth 100000 in
theorem kind_null (op f1 f2 : Int) (s : ByteArray) (A : Option Addr) (n c : Nat) (w : World) (h : op = 9 ∨ op = 10) :
 Calls Tryz.prog 108 #[xj op f1 f2 s, .slice A n c] w (RetB (.int .i64 1) w) := by
 have aa := Aside0.mk (q8 (Below.refl w.heap.size w) (.cells #[.int .i64 op, .int .i64 f1, .int .i64 f2, .string s] 86))
 rcases h with rfl | rfl
 all_goals (
  go_enter Tryz.func108, Tryz.ntmps108
  go_wp2
  go_ret
  exact ⟨rfl, aa.out⟩)
set_option maxHeartbeats 4000000 in
set_option maxRecDepth 100000 in
theorem kind_call (f1 f2 : Int) (s : ByteArray) (A : Option Addr) (n c : Nat) (w : World) (R : Option Int)
 (HA : Aside0 (Calls Tryz.prog 155 #[.string s, .slice A n c] (nodeW w 29 f1 f2 s) (KOut R w))) :
 Calls Tryz.prog 108 #[xj 29 f1 f2 s, .slice A n c] w (KOut R w) := by
 cases R with
 | none =>
  go_enter Tryz.func108, Tryz.ntmps108
  go_wp2_with (first | (go_at_call 155; go_must (refine HA.out.mono ?_; rintro e w1 (⟨k2, hk, _⟩ | ⟨hk, hb, b, rfl, hc⟩); (exact absurd hk (by simp)))))
  exact ⟨rfl, .inr ⟨rfl, hb, b, rfl, hc⟩⟩
 | some k =>
  go_enter Tryz.func108, Tryz.ntmps108
  go_wp2_with (first | (go_at_call 155; go_must (refine HA.out.mono ?_; rintro e w1 (⟨k2, hk, rfl, hb⟩ | ⟨hk, _⟩); rotate_left; (exact absurd hk (by simp)); (injection hk with hk; subst hk; have aa := Aside0.mk hb; clear hb))))
  go_ret
  exact .inl ⟨_, rfl, rfl, aa.out⟩
def kV : Kd Value where
 sz := 1
 E := []
 K := fun _ v cs => cs = [v] ∧ ∃ T u, v = .iface T u
 M := fun _ _ _ v cs => cs = [v] ∧ ∃ T u, v = .iface T u
 K_len := by rintro w x cs ⟨rfl, h⟩; rfl
 K_one := by
  rintro w x cs ⟨rfl, T, u, rfl⟩ y hy
  obtain rfl := List.mem_singleton.1 hy
  rfl
 K_below := fun _ h => h
 K_of_M := fun h => h
 M_mono := fun _ h => h
 M_bound := fun h => h
 M_move := fun _ h => h
 M_lower := fun _ h => h
def zF : List Int → List Int → Option Int
 | [], acc => oneK 0 acc
 | [x], acc => oneK 0 (acc ++ [x])
 | c :: t :: r, acc => if fitK 1 c = true then zF r (acc ++ [t]) else none
theorem caseFrom_two (ks acc : List Int) (j : Nat) (h : j + 1 < ks.length) : zF (ks.drop j) acc = if fitK 1 ks[j] = true then zF (ks.drop (j + 2)) (acc ++ [ks[j + 1]]) else none := by
 rw [List.drop_eq_getElem_cons (show j < ks.length by omega), List.drop_eq_getElem_cons h]
 rfl
theorem caseFrom_one (ks acc : List Int) (j : Nat) (h : j + 1 = ks.length) : zF (ks.drop j) acc = oneK 0 (acc ++ [ks[j]]) := by
 rw [List.drop_eq_getElem_cons (show j < ks.length by omega), List.drop_of_length_le (by omega)]
 rfl
def KsOf (W : World) (vs : List Value) (ks : List Int) : Prop := vs.length = ks.length ∧ ∀ (i : Nat) v k, vs[i]? = some v → ks[i]? = some k → zQ W v k
theorem KsOf.snoc {W : World} {vs : List Value} {ks : List Int} (h : KsOf W vs ks) {v : Value} {k : Int} (hk : zQ W v k) : KsOf W (vs ++ [v]) (ks ++ [k]) := by
 refine ⟨by rw [List.length_append, List.length_append, h.1]; rfl, fun i x y hx hy => ?_⟩
 rcases Nat.lt_or_ge i vs.length with hi | hi
 · rw [List.getElem?_append_left hi] at hx
   rw [List.getElem?_append_left (by rw [← h.1]; exact hi)] at hy
   exact h.2 i x y hx hy
 · rw [List.getElem?_append_right hi] at hx
   rw [List.getElem?_append_right (by rw [← h.1]; exact hi)] at hy;rw [h.1] at hx
   cases hj : i - ks.length with
   | zero => rw [hj] at hx hy; injection hx with hx; injection hy with hy; subst hx hy; exact hk
   | succ j => rw [hj] at hx; simp at hx
theorem KsOf.below {W W' : World} {vs : List Value} {ks : List Int} (h : KsOf W vs ks) (hb : Below W.heap.size W W') : KsOf W' vs ks := ⟨h.1, fun i v k hv hk => (h.2 i v k hv hk).below hb⟩
theorem rowK_of {W : World} {base : Nat} {ok : Nat → Prop} {A : Option Addr} {n c : Nat} {vs : List Value} {ks : List Int} (h : Kd.R kV 81 W base ok (.slice A n c) vs) (hk : KsOf W vs ks) : n = ks.length ∧ n ≤ c ∧ RowK W A vs ks := by
 obtain ⟨A', c', he, hl, hr⟩ := Kd.R_reads h
 injection he with h1 h2 h3
 subst h1; subst h2; subst h3
 refine ⟨hk.1, hl, hk.1, fun i v hv => ?_, hk.2⟩
 have hp : 0 < vs.length := by have := (List.getElem?_eq_some_iff.1 hv).1; omega
 obtain ⟨ad, ha, hc⟩ := hr.2.2 hp;obtain ⟨cc, h4, h5, h6⟩ := hc i v hv;refine ⟨ad, ha, ?_⟩;have := h6 0 v (by rw [h5.1]; rfl);rw [show i * kV.sz + 0 = i from by show i * 1 + 0 = i; omega] at this
 exact this
theorem one_at (vs : List Value) (ks : List Int) (W : World) (base : Nat) (ok : Nat → Prop) (v : Value) (h : Kd.R kV 81 W base ok v vs) (hk : KsOf W vs ks) (hn : ks.length ≤ 100) :
 Calls Tryz.prog 154 #[v] W (KOut (oneK 0 ks) W) := by
 obtain ⟨A, c, rfl⟩ := Kd.R_slice h;obtain ⟨h1, h2, h3⟩ := rowK_of h hk;rw [h1]
 exact one_calls A c vs ks W h3 hn
set_option maxHeartbeats 4000000 in
set_option maxRecDepth 100000 in
theorem kind_case (f1 f2 : Int) (s : ByteArray) (A : Option Addr) (c q : Nat) (vs : List Value) (ks : List Int) (w : World) (hR : RowK w A vs ks) (hn : ks.length ≤ 100) (hq : ks.length = 2 * q + 1) :
 Calls Tryz.prog 108 #[xj 28 f1 f2 s, .slice A ks.length c] w (KOut (zF ks []) w) := by
 have HR := Aside0.mk hR;have HN := Aside0.mk hn;have HQ := Aside0.mk hq;clear hR hn hq;have ap := Aside0.mk (q8 (Below.refl w.heap.size w) (.cells #[.int .i64 28, .int .i64 f1, .int .i64 f2, .string s] 86))
 go_enter Tryz.func108, Tryz.ntmps108
 go_wp2
 go_loopw [5, 6] (fun v5 v6 wr => ∃ (i : Nat) (tv : List Value) (tk : List Int), i + 1 ≤ ks.length ∧ v6 = .int .i64 (i : Int) ∧ i = 2 * tk.length ∧ Aside0 (KsOf w tv tk) ∧ Aside0 (zF ks [] = zF (ks.drop i) tk) ∧ Aside0 (Kd.R kV 81 wr w.heap.size (fun _ => True) v5 tv) ∧ Aside0 (Below w.heap.size w wr)) (fun _ v6 _ => ks.length - (intOf v6).toNat)
 case atStart => exact ⟨0, [], [], by have := HQ.out; omega, rfl, rfl, ⟨⟨rfl, fun i v k hv => by simp at hv⟩⟩, ⟨rfl⟩, ⟨Kd.R_nil _ _ _ _ _⟩, ap⟩
 case round =>
  clear ap;obtain ⟨i, tv, tk, hj, rfl, htk, HK, HE, HO, HB⟩ := hrel
  have hv : i < vs.length := by rw [HR.out.len]; omega
  obtain ⟨ad, rfl, al⟩ := HR.out.cells i _ (List.getElem?_eq_getElem hv);have af := HR.out.kinds i _ _ (List.getElem?_eq_getElem hv) (List.getElem?_eq_getElem (show i < ks.length by omega));obtain ⟨T0, u0, K0, r0, e0, x0⟩ := af;have af : zQ w (.iface T0 u0) ks[i] := ⟨T0, u0, K0, r0, rfl, x0⟩;rw [e0] at al;have g0 := qB HB.out al;clear e0 x0 al;have HTK := Aside0.mk htk;clear htk
  have i1 : (i : Int) + 1 ≤ 100 := by have := HN.out; omega
  have bf : (ks.length : Int) ≤ 100 := by have := HN.out; omega
  by_cases hlt : i + 1 < ks.length
  · have d1 : decide ((i : Int) + 1 < (ks.length : Int)) = true := decide_eq_true (by omega)
    have d2 : (i : Int) < (ks.length : Int) := by omega
    have d3 : (i : Int) + 1 < (ks.length : Int) := by omega
    have au : i + 1 < vs.length := by rw [HR.out.len]; omega
    obtain ⟨ad', hA', am⟩ := HR.out.cells (i + 1) _ (List.getElem?_eq_getElem au)
    injection hA' with hA'
    subst hA';have ak := HR.out.kinds (i + 1) _ _ (List.getElem?_eq_getElem au) (List.getElem?_eq_getElem hlt);obtain ⟨T1, u1, K1, r1, e1, x1⟩ := ak;have ak : zQ w (.iface T1 u1) ks[i + 1] := ⟨T1, u1, K1, r1, rfl, x1⟩;rw [e1] at am;have g1 := qB HB.out am;rw [show ad.add (i + 1) = ⟨ad.block, ad.off + (i + 1), none⟩ by unfold Addr.add; rw [if_neg (by omega)]] at g1;clear e1 x1 am;have HS := Aside0.mk (HE.out.trans (caseFrom_two ks tk i hlt));have a2 := Aside0.mk ak;obtain ⟨B, hB⟩ : ∃ B, fitK 1 ks[i] = B := ⟨_, rfl⟩;have HA := Aside0.mk (all_one 1 ks[i] T0 u0 wr (af.below HB.out) B hB);rw [hB] at HS;clear af ak hB HE
    cases B with
    | false =>
     go_wp2_with (first | (go_at_call 153; go_must (refine HA.out.mono ?_; rintro e w1 (⟨hk, _⟩ | ⟨_, hb, b, rfl, hc⟩); (exact absurd hk (by decide)))))
     exact ⟨rfl, .inr ⟨HS.out, qy HB.out HB.out.size hb, b, rfl, hc⟩⟩
    | true =>
     go_wp2_with (first
      | (go_at_call 153; go_must (refine HA.out.mono ?_; rintro e w1 (⟨_, rfl, hb⟩ | ⟨hk, _⟩); rotate_left; (exact absurd hk (by decide)); (have av := Aside0.mk (qy HB.out HB.out.size hb); have a3 := Aside0.mk (Kd.R_below HO.out hb); have g2 := qB hb g1; clear hb)))
      | (at_builtin; go_must (refine Kd.R_append kV (w0 := w) w.heap.size rfl (.tmp 58) (.tmp 64) 126 81 .nilIface 16 rfl Tryz.underlying126 (by kernel_rfl) rfl (by decide) (by decide) u5 tv (.iface T1 u1) [.iface T1 u1] (fun _ => True) (fun _ => False) rfl rfl ⟨rfl, _, _, rfl⟩ (fun _ h => h.elim) (fun _ _ => trivial) a3.out av.out av.out.size (by have := HTK.out; have := HK.out.1; omega) ?_; intro v1 w4 ab ac ai ae; have aj := Aside0.mk ab; have aa := Aside0.mk ac; clear ab ac ai ae)))
     go_roundw
     case rel => exact ⟨i + 2, tv ++ [.iface T1 u1], tk ++ [ks[i + 1]], by have := HTK.out; have := HQ.out; omega, by go_num, by rw [List.length_append, List.length_singleton]; have := HTK.out; omega, ⟨KsOf.snoc HK.out a2.out⟩, ⟨HS.out.trans (if_pos trivial)⟩, aj, aa⟩
     case measure => simp [intOf]; omega
  · have d1 : decide ((i : Int) + 1 < (ks.length : Int)) = false := decide_eq_false (by omega)
    have e8 : (ks.length : Int) - 1 = (i : Int) := by omega
    have d2 : (i : Int) < (ks.length : Int) := by omega
    have HS := Aside0.mk (HE.out.trans (caseFrom_one ks tk i (by omega)));obtain ⟨R, hRR⟩ : ∃ R, R = oneK 0 (tk ++ [ks[i]]) := ⟨_, rfl⟩;have HKK := Aside0.mk (HK.out.snoc af);rw [← hRR] at HS
    have HONE : Aside0 (∀ W v, Below w.heap.size w W → Kd.R kV 81 W w.heap.size (fun _ => True) v (tv ++ [.iface T0 u0]) → Calls Tryz.prog 154 #[v] W (KOut R W)) := ⟨fun W v hW hv => by
     rw [hRR]
     exact one_at _ _ W _ _ v hv (HKK.out.below hW) (by rw [List.length_append, List.length_singleton]; have := HTK.out; have := HN.out; omega)⟩
    clear af HE hRR hlt
    cases R with
    | none =>
     go_wp2_with (first
      | (go_at_call 154; go_must (refine (HONE.out _ _ aa.out aj.out).mono ?_; rintro e w1 (⟨k2, hk, _⟩ | ⟨hk, hb, b, rfl, hc⟩); (exact absurd hk (by simp))))
      | (at_builtin; go_must (refine Kd.R_append kV (w0 := w) w.heap.size rfl (.tmp 66) (.tmp 73) 126 81 .nilIface 16 rfl Tryz.underlying126 (by kernel_rfl) rfl (by decide) (by decide) u5 tv (.iface T0 u0) [.iface T0 u0] (fun _ => True) (fun _ => False) rfl rfl ⟨rfl, _, _, rfl⟩ (fun _ h => h.elim) (fun _ _ => trivial) HO.out HB.out HB.out.size (by have := HTK.out; have := HK.out.1; omega) ?_; intro v1 w4 ab ac ai ae; have aj := Aside0.mk ab; have aa := Aside0.mk ac; clear ab ac ai ae)))
     exact ⟨rfl, .inr ⟨HS.out, qy aa.out aa.out.size hb, b, rfl, hc⟩⟩
    | some k =>
     go_wp2_with (first
      | (go_at_call 154; go_must (refine (HONE.out _ _ aa.out aj.out).mono ?_; rintro e w1 (⟨k2, hk, rfl, hb⟩ | ⟨hk, _⟩); rotate_left; (exact absurd hk (by simp)); (injection hk with hk; subst hk; have a7 := Aside0.mk (qy aa.out aa.out.size hb); clear hb)))
      | (at_builtin; go_must (refine Kd.R_append kV (w0 := w) w.heap.size rfl (.tmp 66) (.tmp 73) 126 81 .nilIface 16 rfl Tryz.underlying126 (by kernel_rfl) rfl (by decide) (by decide) u5 tv (.iface T0 u0) [.iface T0 u0] (fun _ => True) (fun _ => False) rfl rfl ⟨rfl, _, _, rfl⟩ (fun _ h => h.elim) (fun _ _ => trivial) HO.out HB.out HB.out.size (by have := HTK.out; have := HK.out.1; omega) ?_; intro v1 w4 ab ac ai ae; have aj := Aside0.mk ab; have aa := Aside0.mk ac; clear ab ac ai ae)))
     go_ret
     exact .inl ⟨_, HS.out, rfl, a7.out⟩
def zj (s : ByteArray) : Nat → List S93 → Int
 | _, [] => -1
 | i, c :: r => if c.f0.toList = s.toList then (i : Int) else zj s (i + 1) r
theorem findFrom_at (s : ByteArray) (cols : List S93) (i : Nat) (h : i < cols.length) : zj s i (cols.drop i) = if cols[i].f0.toList = s.toList then (i : Int) else zj s (i + 1) (cols.drop (i + 1)) := by
 rw [List.drop_eq_getElem_cons h]
 rfl
theorem findFrom_lt (s : ByteArray) : ∀ (l : List S93) (i : Nat), zj s i l = -1 ∨ ((i : Int) ≤ zj s i l ∧ zj s i l < ((i + l.length : Nat) : Int))
 | [], i => .inl rfl
 | c :: r, i => by
  simp only [zj]
  split
  · refine .inr ⟨Int.le_refl _, ?_⟩
    simp only [List.length_cons]; omega
  · rcases findFrom_lt s r (i + 1) with h | ⟨h1, h2⟩
    · exact .inl h
    · refine .inr ⟨by omega, ?_⟩
      simp only [List.length_cons]; omega
theorem rdC_lt (xs : List S93) (k : Nat) (hk : k < xs.length) : zr xs (k : Int) = xs[k] := by
 simp [zr, hk]
theorem named_calls (g : Nat) (i : Int) (nm : ByteArray) (ty : Int) (nn : Bool) (s : ByteArray) (w : World) (hg : w.cell? ⟨g, 0, none⟩ = some (.string s)) :
 Calls Tryz.prog 78 #[.int .i64 i, .agg #[.string nm, .int .i64 ty, .bool nn], .pointer (some ⟨g, 0, none⟩)] w (RetB (.bool (nm.toList == s.toList)) w) := by
 have hlt := World.block_lt_of_cell? w _ hg;have g1 : (w.alloc (.cells #[.string nm, .int .i64 ty, .bool nn] 93)).cell? ⟨g, 0, none⟩ = some (.string s) := qB (q8 (Below.refl _ _) _) hg;have hu := Tryz.underlying93
 go_enter Tryz.func78, Tryz.ntmps78
 go_wp2
 go_ret
 exact ⟨rfl, q8 (Below.refl _ _) _⟩
set_option maxHeartbeats 4000000 in
set_option maxRecDepth 100000 in
theorem first_calls (g : Nat) (s : ByteArray) (A : Option Addr) (n c : Nat) (cols : List S93) (w : World) (hC : Kd.C k93 w A n cols) (hg : w.cell? ⟨g, 0, none⟩ = some (.string s)) (hn : n ≤ 1000000000) :
 Calls Tryz.prog 77 #[.slice A n c, .func (.func 78) #[] #[.pointer (some ⟨g, 0, none⟩)]] w (RetB (.int .i64 (zj s 0 cols)) w) := by
 have HC := Aside0.mk hC;have HN := Aside0.mk hC.1;have HG := Aside0.mk hg;clear hC hg;have hu := Tryz.underlying93
 go_enter Tryz.func77, Tryz.ntmps77
 go_wp2
 go_loopw [9] (fun v9 wr => ∃ i : Nat, i ≤ n ∧ v9 = .int .i64 (i : Int) ∧ Aside0 (zj s 0 cols = zj s i (cols.drop i)) ∧ Aside0 (Below w.heap.size w wr)) (fun v9 _ => n - (intOf v9).toNat)
 case atStart => exact ⟨0, Nat.zero_le _, rfl, ⟨rfl⟩, ⟨Below.refl _ _⟩⟩
 case round =>
  obtain ⟨i, hi, rfl, HF, HB⟩ := hrel
  by_cases hlt : i < n
  · have d1 : decide ((i : Int) < (n : Int)) = true := decide_eq_true (by omega)
    have d9 : (i : Int) < (n : Int) := by omega
    have hlc : i < cols.length := by rw [HN.out]; exact hlt
    obtain ⟨ad, rfl, g0, g1, g2⟩ := at_T93 (Kd.C_below HC.out HB.out) (i : Int) (by omega) d9;have ek : ((i : Int)).toNat = i := Int.toNat_natCast i;rw [rdC_lt cols i hlc, ek] at g0 g1 g2;have HX := Aside0.mk (HF.out.trans (findFrom_at s cols i hlc));generalize cols[i] = x at *;obtain ⟨nm, ty, nn⟩ := x
    dsimp only at g0 g1 g2
    clear ek HF;have HA : Aside0 (∀ W, Below wr.heap.size wr W → Calls Tryz.prog 78 #[.int .i64 (i : Int), .agg #[.string nm, .int .i64 ty, .bool nn], .pointer (some ⟨g, 0, none⟩)] W (RetB (.bool (nm.toList == s.toList)) W)) := ⟨fun W hW => named_calls g i nm ty nn s W (qB (qy HB.out HB.out.size hW) HG.out)⟩;have aa := Aside0.mk (q8 (Below.refl wr.heap.size wr) (.cells #[.string nm, .int .i64 ty, .bool nn] 93))
    by_cases he : nm.toList = s.toList
    · have e1 : (nm.toList == s.toList) = true := by simpa using he
      have HE := Aside0.mk (HX.out.trans (if_pos he));rw [e1] at HA;clear he HX e1
      go_wp2_with (first | (go_at_call 78; go_must (refine (HA.out _ aa.out).mono ?_; rintro e w1 ⟨rfl, hb⟩; have ac := Aside0.mk (qy HB.out HB.out.size (qy aa.out aa.out.size hb)); clear hb)))
      go_ret
      exact ⟨congrArg (fun z => Ending.returned (Value.int .i64 z)) HE.out.symm, ac.out⟩
    · have e1 : (nm.toList == s.toList) = false := by simpa using he
      have HE := Aside0.mk (HX.out.trans (if_neg he));rw [e1] at HA;clear he HX e1
      go_wp2_with (first | (go_at_call 78; go_must (refine (HA.out _ aa.out).mono ?_; rintro e w1 ⟨rfl, hb⟩; have ac := Aside0.mk (qy HB.out HB.out.size (qy aa.out aa.out.size hb)); clear hb)))
      go_roundw
      case rel => exact ⟨i + 1, by omega, by go_num, HE, ac⟩
      case measure => simp [intOf]; omega
  · have d1 : decide ((i : Int) < (n : Int)) = false := decide_eq_false (by omega)
    have HE : Aside0 (zj s 0 cols = -1) := ⟨by rw [HF.out, List.drop_of_length_le (by rw [HN.out]; omega)]; rfl⟩;go_wp2
    go_ret
    exact ⟨congrArg (fun z => Ending.returned (Value.int .i64 z)) HE.out.symm, HB.out⟩
theorem column_calls (s : ByteArray) (A : Option Addr) (n c : Nat) (cols : List S93) (w : World) (hC : Kd.C k93 w A n cols) (hn : n ≤ 1000000000) :
 Calls Tryz.prog 39 #[.slice A n c, .string s] w (RetB (.int .i64 (zj s 0 cols)) w) := by
 have hb := q8 (Below.refl w.heap.size w) (.cells #[.string s] 9);have HB := Aside0.mk hb;have HA := Aside0.mk (first_calls w.heap.size s A n c cols _ (Kd.C_below hC hb) ((qa (qL w _) 0).trans rfl) hn);clear hb hC
 go_enter Tryz.func39, Tryz.ntmps39
 go_wp2_with (first | (go_at_call 77; go_must (refine HA.out.mono ?_; rintro e w1 ⟨rfl, hb⟩; have aa := Aside0.mk (qy HB.out HB.out.size hb); clear hb)))
 go_ret
 exact ⟨rfl, aa.out⟩
end Go.Proofs.YtfmgbgkcmmpcfaaGreatDoor.PTk

