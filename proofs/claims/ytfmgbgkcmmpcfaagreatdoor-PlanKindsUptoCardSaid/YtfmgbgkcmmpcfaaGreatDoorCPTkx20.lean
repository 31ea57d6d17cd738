import Derived.Test.YtfmgbgkcmmpcfaaGreatDoorCPTkx0
import Derived.Test.YtfmgbgkcmmpcfaaGreatDoorCPTkx7
import Derived.Test.YtfmgbgkcmmpcfaaGreatDoorCPTkx8
import Derived.Test.YtfmgbgkcmmpcfaaGreatDoorCPTkx19
namespace Go.Proofs.YtfmgbgkcmmpcfaaGreatDoor.PTk
open Go.RowKit Go.Proofs.YtfmgbgkcmmpcfaaGreatDoorW.PrintWords Go.Proofs.YtfmgbgkcmmpcfaaGreatDoorW.PrintLast Go.Proofs.YtfmgbgkcmmpcfaaGreatDoorW.PrintMore
attribute [local go_sem] zp zC
set_option linter.unusedVariables false
set_option linter.unusedSimpArgs false
abbrev FitC (A : Option Addr) (n c : Nat) (want : Int) (b : Bool) (w : World) : Prop := Aside0 (∀ W, Below w.heap.size w W → Calls Tryz.prog 76 #[.slice A n c, .int .i64 want] W (RetB (.bool b) W))
abbrev OneC (A : Option Addr) (n c : Nat) (r : Int) (w : World) : Prop := Aside0 (∀ W, Below w.heap.size w W → Calls Tryz.prog 74 #[.slice A n c] W (RetB (.int .i64 r) W))
set_option maxHeartbeats 4000000 in
set_option maxRecDepth 100000 in
theorem rcall_fit (s : ByteArray) (A : Option Addr) (n c : Nat) (want give r : Int) (b : Bool) (w : World) (h : (s.toList = ([97, 98, 115] : List UInt8) ∧ want = 2 ∧ give = 2) ∨ (s.toList = ([108, 101, 110, 103, 116, 104] : List UInt8) ∧ want = 3 ∧ give = 2) ∨ (s.toList = ([108, 111, 119, 101, 114] : List UInt8) ∧ want = 3 ∧ give = 3) ∨ (s.toList = ([117, 112, 112, 101, 114] : List UInt8) ∧ want = 3 ∧ give = 3))
 (hb : (b = true ∧ r = give) ∨ (b = false ∧ r = -1)) (HF : FitC A n c want b w) :
 Calls Tryz.prog 75 #[.string s, .slice A n c] w (RetB (.int .i64 r) w) := by
 have HB := Aside0.mk (Below.refl w.heap.size w)
 rcases h with ⟨h, rfl, rfl⟩ | ⟨h, rfl, rfl⟩ | ⟨h, rfl, rfl⟩ | ⟨h, rfl, rfl⟩
 · have c1 : (s.toList == ([97, 98, 115] : List UInt8)) = true := by rw [h]; rfl
   clear h
   rcases hb with ⟨rfl, rfl⟩ | ⟨rfl, rfl⟩
   all_goals (
    go_enter Tryz.func75, Tryz.ntmps75
    go_wp2_with (first | (go_at_call 76; go_must (refine (HF.out _ HB.out).mono ?_; rintro e w1 ⟨rfl, hb⟩; have aa := Aside0.mk hb; clear hb)))
    go_ret
    exact ⟨rfl, aa.out⟩)
 · have c1 : (s.toList == ([97, 98, 115] : List UInt8)) = false := by rw [h]; rfl
   have c2 : (s.toList == ([108, 101, 110, 103, 116, 104] : List UInt8)) = true := by rw [h]; rfl
   clear h
   rcases hb with ⟨rfl, rfl⟩ | ⟨rfl, rfl⟩
   all_goals (
    go_enter Tryz.func75, Tryz.ntmps75
    go_wp2_with (first | (go_at_call 76; go_must (refine (HF.out _ HB.out).mono ?_; rintro e w1 ⟨rfl, hb⟩; have aa := Aside0.mk hb; clear hb)))
    go_ret
    exact ⟨rfl, aa.out⟩)
 · have c1 : (s.toList == ([97, 98, 115] : List UInt8)) = false := by rw [h]; rfl
   have c2 : (s.toList == ([108, 101, 110, 103, 116, 104] : List UInt8)) = false := by rw [h]; rfl
   have c3 : (s.toList == ([108, 111, 119, 101, 114] : List UInt8)) = true := by rw [h]; rfl
   clear h
   rcases hb with ⟨rfl, rfl⟩ | ⟨rfl, rfl⟩
   all_goals (
    go_enter Tryz.func75, Tryz.ntmps75
    go_wp2_with (first | (go_at_call 76; go_must (refine (HF.out _ HB.out).mono ?_; rintro e w1 ⟨rfl, hb⟩; have aa := Aside0.mk hb; clear hb)))
    go_ret
    exact ⟨rfl, aa.out⟩)
 · have c1 : (s.toList == ([97, 98, 115] : List UInt8)) = false := by rw [h]; rfl
   have c2 : (s.toList == ([108, 101, 110, 103, 116, 104] : List UInt8)) = false := by rw [h]; rfl
   have c3 : (s.toList == ([108, 111, 119, 101, 114] : List UInt8)) = false := by rw [h]; rfl
   have c4 : (s.toList == ([117, 112, 112, 101, 114] : List UInt8)) = true := by rw [h]; rfl
   clear h
   rcases hb with ⟨rfl, rfl⟩ | ⟨rfl, rfl⟩
   all_goals (
    go_enter Tryz.func75, Tryz.ntmps75
    go_wp2_with (first | (go_at_call 76; go_must (refine (HF.out _ HB.out).mono ?_; rintro e w1 ⟨rfl, hb⟩; have aa := Aside0.mk hb; clear hb)))
    go_ret
    exact ⟨rfl, aa.out⟩)
set_option maxHeartbeats 4000000 in
set_option maxRecDepth 100000 in
theorem rcall_one (s : ByteArray) (A : Option Addr) (n c : Nat) (r : Int) (w : World) (h1 : ¬ s.toList = ([97, 98, 115] : List UInt8)) (h2 : ¬ s.toList = ([108, 101, 110, 103, 116, 104] : List UInt8)) (h3 : ¬ s.toList = ([108, 111, 119, 101, 114] : List UInt8)) (h4 : ¬ s.toList = ([117, 112, 112, 101, 114] : List UInt8)) (h5 : ¬ s.toList = ([115, 117, 98, 115, 116, 114] : List UInt8))
 (HF : OneC A n c r w) :
 Calls Tryz.prog 75 #[.string s, .slice A n c] w (RetB (.int .i64 r) w) := by
 have HB := Aside0.mk (Below.refl w.heap.size w)
 have c1 : (s.toList == ([97, 98, 115] : List UInt8)) = false := by simpa using h1
 have c2 : (s.toList == ([108, 101, 110, 103, 116, 104] : List UInt8)) = false := by simpa using h2
 have c3 : (s.toList == ([108, 111, 119, 101, 114] : List UInt8)) = false := by simpa using h3
 have c4 : (s.toList == ([117, 112, 112, 101, 114] : List UInt8)) = false := by simpa using h4
 have c5 : (s.toList == ([115, 117, 98, 115, 116, 114] : List UInt8)) = false := by simpa using h5
 clear h1 h2 h3 h4 h5
 go_enter Tryz.func75, Tryz.ntmps75
 go_wp2_with (first | (go_at_call 74; go_must (refine (HF.out _ HB.out).mono ?_; rintro e w1 ⟨rfl, hb⟩; have af := Aside0.mk hb; clear hb)))
 go_ret
 exact ⟨rfl, af.out⟩
set_option maxHeartbeats 4000000 in
set_option maxRecDepth 100000 in
theorem rcall_sub (s : ByteArray) (ad : Addr) (n c : Nat) (r : Int) (b1 b2 : Bool) (w : World) (h : s.toList = ([115, 117, 98, 115, 116, 114] : List UInt8)) (hn : 2 ≤ n) (hc : n ≤ c)
 (hb : (b1 = false ∧ r = -1) ∨ (b1 = true ∧ b2 = false ∧ r = -1) ∨ (b1 = true ∧ b2 = true ∧ r = 3)) (H1 : FitC (some ad) 1 c 3 b1 w) (H2 : FitC (some (ad.add 1)) (n - 1) (c - 1) 2 b2 w) :
 Calls Tryz.prog 75 #[.string s, .slice (some ad) n c] w (RetB (.int .i64 r) w) := by
 have HB := Aside0.mk (Below.refl w.heap.size w)
 obtain ⟨it, hit, hsz⟩ : ∃ i, Tryz.prog.info? 3 = some i ∧ i.size = 1 := by
  have q : (Tryz.prog.info? 3).map (·.size) = some 1 := by kernel_rfl
  cases hh : Tryz.prog.info? 3 with
  | none => rw [hh] at q; cases q
  | some i => exact ⟨i, rfl, by rw [hh] at q; simpa using q⟩
 have hcut := vE (P := Tryz.prog) 22 3 .i64 (by kernel_rfl) hit 1 hsz (some ad) n c 1 (by omega) (by omega);have e1 : (1 : Int).toNat = 1 := rfl;rw [e1, if_neg (by omega)] at hcut;simp only [Option.map_some, Nat.mul_one] at hcut;have hto := cut_to (P := Tryz.prog) 22 3 .i64 (by kernel_rfl) hit (some ad) n c 1 (by omega) (by omega) hc;rw [e1] at hto
 have c1 : (s.toList == ([97, 98, 115] : List UInt8)) = false := by rw [h]; rfl
 have c2 : (s.toList == ([108, 101, 110, 103, 116, 104] : List UInt8)) = false := by rw [h]; rfl
 have c3 : (s.toList == ([108, 111, 119, 101, 114] : List UInt8)) = false := by rw [h]; rfl
 have c4 : (s.toList == ([117, 112, 112, 101, 114] : List UInt8)) = false := by rw [h]; rfl
 have c5 : (s.toList == ([115, 117, 98, 115, 116, 114] : List UInt8)) = true := by rw [h]; rfl
 clear h hit hsz e1
 rcases hb with ⟨rfl, rfl⟩ | ⟨rfl, rfl, rfl⟩ | ⟨rfl, rfl, rfl⟩
 all_goals (
  go_enter Tryz.func75, Tryz.ntmps75
  go_wp2_with (first
   | (go_at_call 76; refine (H1.out _ HB.out).mono ?_; rintro e w1 ⟨rfl, hb⟩; have aa := Aside0.mk hb; clear hb HB)
   | (go_at_call 76; refine (H2.out _ aa.out).mono ?_; rintro e w2 ⟨rfl, hb⟩; have af := Aside0.mk (qy aa.out aa.out.size hb); clear hb))
  go_ret
  exact ⟨rfl, by first | exact af.out | exact aa.out⟩)
set_option maxHeartbeats 4000000 in
set_option maxRecDepth 100000 in
theorem rnode_fit (op want give f1 f2 r : Int) (s : ByteArray) (A : Option Addr) (n c : Nat) (b : Bool) (w : World) (h : vq op want give) (hb : (b = true ∧ r = give) ∨ (b = false ∧ r = -1)) (HF : FitC A n c want b w) :
 Calls Tryz.prog 35 #[xj op f1 f2 s, .slice A n c] w (RetB (.int .i64 r) w) := by
 have HB := Aside0.mk (q8 (Below.refl w.heap.size w) (.cells #[.int .i64 op, .int .i64 f1, .int .i64 f2, .string s] 86));unfold vq at h
 rcases h with ⟨rfl, rfl, rfl⟩ | ⟨rfl, rfl, rfl⟩ | ⟨rfl, rfl, rfl⟩ | ⟨rfl, rfl, rfl⟩ | ⟨rfl, rfl, rfl⟩ | ⟨rfl, rfl, rfl⟩ | ⟨rfl, rfl, rfl⟩ | ⟨rfl, rfl, rfl⟩ | ⟨rfl, rfl, rfl⟩ | ⟨rfl, rfl, rfl⟩ | ⟨rfl, rfl, rfl⟩
 all_goals (
  rcases hb with ⟨rfl, rfl⟩ | ⟨rfl, rfl⟩
  all_goals (
   go_enter Tryz.func35, Tryz.ntmps35
   go_wp2_with (first | (go_at_call 76; go_must (refine (HF.out _ HB.out).mono ?_; rintro e w1 ⟨rfl, hb⟩; have aa := Aside0.mk (qy HB.out HB.out.size hb); clear hb)))
   go_ret
   exact ⟨rfl, aa.out⟩))
set_option maxHeartbeats 4000000 in
set_option maxRecDepth 100000 in
theorem rnode_one (op f1 f2 k r : Int) (s : ByteArray) (A : Option Addr) (n c : Nat) (w : World) (h : inOne op) (hr : (k < 0 ∧ r = -1) ∨ (0 ≤ k ∧ r = 1)) (HF : OneC A n c k w) :
 Calls Tryz.prog 35 #[xj op f1 f2 s, .slice A n c] w (RetB (.int .i64 r) w) := by
 have HB := Aside0.mk (q8 (Below.refl w.heap.size w) (.cells #[.int .i64 op, .int .i64 f1, .int .i64 f2, .string s] 86));unfold inOne at h
 rcases h with rfl | rfl | rfl | rfl | rfl | rfl | rfl | rfl
 all_goals (
  rcases hr with ⟨hk, rfl⟩ | ⟨hk, rfl⟩
  · have d1 : decide (k < 0) = true := decide_eq_true hk
    go_enter Tryz.func35, Tryz.ntmps35
    go_wp2_with (first | (go_at_call 74; go_must (refine (HF.out _ HB.out).mono ?_; rintro e w1 ⟨rfl, hb⟩; have aa := Aside0.mk (qy HB.out HB.out.size hb); clear hb)))
    go_ret
    exact ⟨rfl, aa.out⟩
  · have d1 : decide (k < 0) = false := decide_eq_false (by omega)
    go_enter Tryz.func35, Tryz.ntmps35
    go_wp2_with (first | (go_at_call 74; go_must (refine (HF.out _ HB.out).mono ?_; rintro e w1 ⟨rfl, hb⟩; have aa := Aside0.mk (qy HB.out HB.out.size hb); clear hb)))
    go_ret
    exact ⟨rfl, aa.out⟩)
set_option maxHeartbeats 4000000 in
set_option maxRecDepth 100000 in
theorem rnode_null (op f1 f2 : Int) (s : ByteArray) (A : Option Addr) (n c : Nat) (w : World) (h : op = 9 ∨ op = 10) :
 Calls Tryz.prog 35 #[xj op f1 f2 s, .slice A n c] w (RetB (.int .i64 1) w) := by
 have HB := Aside0.mk (q8 (Below.refl w.heap.size w) (.cells #[.int .i64 op, .int .i64 f1, .int .i64 f2, .string s] 86))
 rcases h with rfl | rfl
 all_goals (
  go_enter Tryz.func35, Tryz.ntmps35
  go_wp2
  go_ret
  exact ⟨rfl, HB.out⟩)
set_option maxHeartbeats 4000000 in
set_option maxRecDepth 100000 in
theorem rnode_call (f1 f2 r : Int) (s : ByteArray) (A : Option Addr) (n c : Nat) (w : World)
 (HF : Aside0 (∀ W, Below w.heap.size w W → Calls Tryz.prog 75 #[.string s, .slice A n c] W (RetB (.int .i64 r) W))) :
 Calls Tryz.prog 35 #[xj 29 f1 f2 s, .slice A n c] w (RetB (.int .i64 r) w) := by
 have HB := Aside0.mk (q8 (Below.refl w.heap.size w) (.cells #[.int .i64 29, .int .i64 f1, .int .i64 f2, .string s] 86))
 go_enter Tryz.func35, Tryz.ntmps35
 go_wp2_with (first | (go_at_call 75; go_must (refine (HF.out _ HB.out).mono ?_; rintro e w1 ⟨rfl, hb⟩; have aa := Aside0.mk (qy HB.out HB.out.size hb); clear hb)))
 go_ret
 exact ⟨rfl, aa.out⟩
def CI (ks : List Int) (i : Nat) (acc : List Int) : Prop :=
 (i < ks.length ∧ i % 2 = 0 ∧ zF ks [] = zF (ks.drop i) acc) ∨ (i < ks.length ∧ i % 2 = 1 ∧ zF ks [] = zF (ks.drop (i + 1)) (acc ++ [rd ks (i : Int)])) ∨ (i = ks.length ∧ zF ks [] = oneK 0 acc)
theorem rd_nat (ks : List Int) (i : Nat) (h : i < ks.length) : rd ks (i : Int) = ks[i] := by
 simp [rd, h]
theorem CI.odd {ks acc : List Int} {i : Nat} (h : CI ks i acc) (hn : ks.length % 2 = 1) (hi : i < ks.length) (hp : i % 2 = 1) : CI ks (i + 1) (acc ++ [rd ks (i : Int)]) := by
 rcases h with ⟨_, h, _⟩ | ⟨_, _, h⟩ | ⟨h, _⟩
 · omega
 · exact .inl ⟨by omega, by omega, h⟩
 · omega
theorem CI.last {ks acc : List Int} {i : Nat} (h : CI ks i acc) (hi : i + 1 = ks.length) (hp : i % 2 = 0) : CI ks (i + 1) (acc ++ [rd ks (i : Int)]) := by
 rcases h with ⟨_, _, h⟩ | ⟨_, h, _⟩ | ⟨h, _⟩
 · exact .inr (.inr ⟨hi, h.trans (by rw [caseFrom_one ks acc i hi, rd_nat ks i (by omega)])⟩)
 · omega
 · omega
theorem CI.even {ks acc : List Int} {i : Nat} (h : CI ks i acc) (hi : i + 1 < ks.length) (hp : i % 2 = 0) : (fitK 1 (rd ks (i : Int)) = true ∧ CI ks (i + 1) acc) ∨ (fitK 1 (rd ks (i : Int)) = false ∧ zF ks [] = none) := by
 rcases h with ⟨_, _, h⟩ | ⟨_, h, _⟩ | ⟨h, _⟩
 · rw [caseFrom_two ks acc i hi, ← rd_nat ks i (by omega), ← rd_nat ks (i + 1) hi] at h
   by_cases hf : fitK 1 (rd ks (i : Int)) = true
   · rw [if_pos hf] at h
     exact .inl ⟨hf, .inr (.inl ⟨hi, by omega, h⟩)⟩
   · rw [if_neg hf] at h
     exact .inr ⟨by simpa using hf, h⟩
 · omega
 · omega
set_option maxHeartbeats 4000000 in
set_option maxRecDepth 100000 in
theorem rnode_case (f1 f2 : Int) (s : ByteArray) (A : Option Addr) (c : Nat) (ks : List Int) (w : World) (hC : Kd.C (Kd.int .i64) w A ks.length ks) (hn : ks.length ≤ 100) (hodd : ks.length % 2 = 1) (h0 : ∀ k ∈ ks, 0 ≤ k)
 (HO : Aside0 (∀ (acc : List Int) (v : Value) W, acc.length ≤ 100 → (∀ k ∈ acc, 0 ≤ k) → Below w.heap.size w W → Kd.R (Kd.int .i64) 3 W w.heap.size (fun _ => True) v acc → Calls Tryz.prog 74 #[v] W (RetB (.int .i64 ((oneK 0 acc).getD (-1))) W))) :
 Calls Tryz.prog 35 #[xj 28 f1 f2 s, .slice A ks.length c] w (RetB (.int .i64 ((zF ks []).getD (-1))) w) := by
 have ak := Aside0.mk (q8 (Below.refl w.heap.size w) (.cells #[.int .i64 28, .int .i64 f1, .int .i64 f2, .string s] 86));have HC := Aside0.mk hC;have HN := Aside0.mk (And.intro hn (And.intro hodd h0));clear hC hn hodd h0
 go_enter Tryz.func35, Tryz.ntmps35
 go_wp2
 go_loopw [7, 8] (fun v7 v8 wr => ∃ (i : Nat) (acc : List Int), i ≤ ks.length ∧ v8 = .int .i64 (i : Int) ∧ acc.length ≤ i ∧ Aside0 (∀ k ∈ acc, 0 ≤ k) ∧ Aside0 (CI ks i acc) ∧ Aside0 (Kd.R (Kd.int .i64) 3 wr w.heap.size (fun _ => True) v7 acc) ∧ Aside0 (Below w.heap.size w wr)) (fun _ v8 _ => ks.length - (intOf v8).toNat)
 case atStart => exact ⟨0, [], Nat.zero_le _, rfl, Nat.le_refl _, ⟨fun k hk => by cases hk⟩, ⟨.inl ⟨by have := HN.out.2.1; omega, rfl, rfl⟩⟩, ⟨Kd.R_nil _ _ _ _ _⟩, ak⟩
 case round =>
  clear ak;obtain ⟨i, acc, hi, rfl, hacc, HP, HI, HR, HB⟩ := hrel
  have i1 : (i : Int) ≤ 100 := by have := HN.out.1; omega
  have az : (ks.length : Int) ≤ 100 := by have := HN.out.1; omega
  by_cases hlt : i < ks.length
  · have d1 : decide ((i : Int) < (ks.length : Int)) = true := decide_eq_true (by omega)
    have d2 : (i : Int) < (ks.length : Int) := by omega
    obtain ⟨ad, rfl, g0⟩ := Kd.at_int (Kd.C_below HC.out HB.out) (i : Int) (by omega) d2;have ek : ((i : Int)).toNat = i := Int.toNat_natCast i;rw [ek] at g0;clear ek
    have hpos : 0 ≤ rd ks (i : Int) := by rw [rd_nat ks i hlt]; exact HN.out.2.2 _ (List.getElem_mem hlt)
    have HPA : Aside0 (∀ k ∈ acc ++ [rd ks (i : Int)], 0 ≤ k) := ⟨fun k hk => by
     rcases List.mem_append.1 hk with h | h
     · exact HP.out k h
     · rw [List.mem_singleton.1 h]; exact hpos⟩
    have happ : ∀ (P : Prop), P → P := fun _ h => h
    clear happ hpos
    by_cases hp : i % 2 = 1
    · have et : Int.tmod (i : Int) 2 = 1 := by rw [Int.tmod_eq_emod_of_nonneg (by omega)]; omega
      have ee : (i : Int) % 2 = 1 := by omega
      have HJ := Aside0.mk (HI.out.odd HN.out.2.1 hlt hp);clear hp HI;generalize rd ks (i : Int) = x at *
      go_wp2_with (at_builtin; go_must (refine Kd.R_append (Kd.int .i64) (w0 := w) w.heap.size rfl (.tmp 56) (.tmp 61) 22 3 (.int .i64 0) 8 rfl Tryz.underlying22 (by kernel_rfl) rfl (by decide) (by omega) u7 acc x [.int .i64 x] (fun _ => True) (fun _ => False) rfl rfl rfl (fun _ h => h.elim) (fun _ _ => trivial) HR.out HB.out HB.out.size (by omega) ?_; intro v1 w4 aa ab af ae; have ag := Aside0.mk aa; have ah := Aside0.mk ab; clear aa ab af ae))
      go_roundw
      case rel => exact ⟨i + 1, acc ++ [x], by omega, by go_num, by rw [List.length_append, List.length_singleton]; omega, HPA, HJ, ag, ah⟩
      case measure => simp [intOf]; omega
    · have et : Int.tmod (i : Int) 2 = 0 := by rw [Int.tmod_eq_emod_of_nonneg (by omega)]; omega
      have ee : (i : Int) % 2 = 0 := by omega
      by_cases hl : i + 1 = ks.length
      · have e8 : (ks.length : Int) - 1 = (i : Int) := by omega
        have HJ := Aside0.mk (HI.out.last hl (by omega));clear hp HI hl;generalize rd ks (i : Int) = x at *
        go_wp2_with (at_builtin; go_must (refine Kd.R_append (Kd.int .i64) (w0 := w) w.heap.size rfl (.tmp 56) (.tmp 61) 22 3 (.int .i64 0) 8 rfl Tryz.underlying22 (by kernel_rfl) rfl (by decide) (by omega) u7 acc x [.int .i64 x] (fun _ => True) (fun _ => False) rfl rfl rfl (fun _ h => h.elim) (fun _ _ => trivial) HR.out HB.out HB.out.size (by omega) ?_; intro v1 w4 aa ab af ae; have ag := Aside0.mk aa; have ah := Aside0.mk ab; clear aa ab af ae))
        go_roundw
        case rel => exact ⟨i + 1, acc ++ [x], by omega, by go_num, by rw [List.length_append, List.length_singleton]; omega, HPA, HJ, ag, ah⟩
        case measure => simp [intOf]; omega
      · have e8 : ((i : Int) == (ks.length : Int) - 1) = false := by simp; omega
        have HJ := Aside0.mk (HI.out.even (by omega) (by omega));clear hp HI hl HPA;generalize rd ks (i : Int) = x at *
        by_cases x1 : x = 1
        · subst x1
          have ac : Aside0 (CI ks (i + 1) acc) := ⟨by rcases HJ.out with ⟨_, h⟩ | ⟨h, _⟩; exact h; exact absurd h (by decide)⟩;go_wp2
          go_roundw
          case rel => exact ⟨i + 1, acc, by omega, by go_num, by omega, HP, ac, HR, HB⟩
          case measure => simp [intOf]; omega
        · have b1 : (x != 1) = true := by simpa using x1
          by_cases x0 : x = 0
          · subst x0
            have ac : Aside0 (CI ks (i + 1) acc) := ⟨by rcases HJ.out with ⟨_, h⟩ | ⟨h, _⟩; exact h; exact absurd h (by decide)⟩;go_wp2
            go_roundw
            case rel => exact ⟨i + 1, acc, by omega, by go_num, by omega, HP, ac, HR, HB⟩
            case measure => simp [intOf]; omega
          · have b0 : (x != 0) = true := by simpa using x0
            have ac : Aside0 (zF ks [] = none) := ⟨by
             rcases HJ.out with ⟨h, _⟩ | ⟨_, h⟩
             · exfalso; unfold fitK at h; simp [x1, x0] at h
             · exact h⟩
            clear x1 x0;go_wp2
            go_ret
            exact ⟨by rw [ac.out]; rfl, HB.out⟩
  · have d1 : decide ((i : Int) < (ks.length : Int)) = false := decide_eq_false (by omega)
    have hE : zF ks [] = oneK 0 acc := by
     rcases HI.out with ⟨h, _⟩ | ⟨h, _⟩ | ⟨_, h⟩
     · omega
     · omega
     · exact h
    have HE := Aside0.mk hE;have HA := Aside0.mk (HO.out acc u7 wr (by have := HN.out.1; omega) HP.out HB.out HR.out);clear hE
    go_wp2_with (first | (go_at_call 74; go_must (refine HA.out.mono ?_; rintro e w1 ⟨rfl, hb⟩; have ao := Aside0.mk (qy HB.out HB.out.size hb); clear hb)))
    go_ret
    exact ⟨by rw [HE.out]; rfl, ao.out⟩
theorem allFit_ev (l : List Int) (want : Int) (hn : l.length ≤ 100) : ∀ n i : Nat, i + n = l.length → z6.l0 (n + 1) l want (i : Int) = some ((l.drop i).all (fitK want))
 | 0, i, h => by
  simp only [z6.l0]
  rw [if_neg (by omega), List.drop_of_length_le (by omega)]; rfl
 | n + 1, i, h => by
  have hi : i < l.length := by omega
  have ih := allFit_ev l want hn n (i + 1) (by omega)
  have hw : wrap64 ((i : Int) + 1) = ((i + 1 : Nat) : Int) := by rw [wrapK (by omega) (by omega)]; omega
  rw [z6.l0, if_pos (by omega), if_pos (by omega), hw, ih, rd_nat l i hi, List.drop_eq_getElem_cons hi]
  by_cases h1 : l[i] = want
  · rw [if_pos h1]; simp [fitK, h1]
  · rw [if_neg h1]
    by_cases h2 : l[i] = 0
    · rw [if_pos h2]; simp [fitK, h2]
    · rw [if_neg h2, List.all_cons, show fitK want l[i] = false by simp [fitK, h1, h2]]; rfl
theorem vU (l : List Int) (hn : l.length ≤ 100) (h0 : ∀ k ∈ l, 0 ≤ k) : ∀ (n i : Nat) (k : Int), i + n = l.length → 0 ≤ k → qW.l0 (n + 1) l k (i : Int) = some ((oneK k (l.drop i)).getD (-1))
 | 0, i, k, h, hk => by
  simp only [qW.l0]
  rw [if_neg (by omega), List.drop_of_length_le (by omega)]; rfl
 | n + 1, i, k, h, hk => by
  have hi : i < l.length := by omega
  have hx := h0 _ (List.getElem_mem hi)
  have hw : wrap64 ((i : Int) + 1) = ((i + 1 : Nat) : Int) := by rw [wrapK (by omega) (by omega)]; omega
  rw [qW.l0, if_pos (by omega), if_pos (by omega), hw, rd_nat l i hi, List.drop_eq_getElem_cons hi];simp only [oneK, zN.f]
  by_cases k0 : k = 0
  · subst k0
    rw [if_pos rfl, Option.bind_some, if_neg (by omega), vU l hn h0 n (i + 1) _ (by omega) hx]
    by_cases x0 : l[i] = 0
    · rw [if_pos (.inl x0), x0]
    · rw [if_neg (by omega), if_pos rfl]
  · rw [if_neg k0]
    by_cases x0 : l[i] = 0
    · rw [if_pos x0, Option.bind_some, if_neg (by omega), vU l hn h0 n (i + 1) _ (by omega) hk, if_pos (.inl x0)]
    · rw [if_neg x0]
      by_cases xe : k = l[i]
      · rw [if_pos xe, Option.bind_some, if_neg (by omega), vU l hn h0 n (i + 1) _ (by omega) hk, if_pos (.inr xe.symm)]
      · rw [if_neg xe, Option.bind_some, if_pos (by omega), if_neg (by omega), if_neg k0]; rfl
theorem fitC_of (A : Option Addr) (c : Nat) (l : List Int) (want : Int) (w : World) (hC : Kd.C (Kd.int .i64) w A l.length l) (hc : l.length ≤ c) (hn : l.length ≤ 100) : FitC A l.length c want (l.all (fitK want)) w := ⟨fun W hW => by
 refine (z6.calls (l.length + 1) A c l want _ W (Kd.C_below hC hW) hc (allFit_ev l want hn l.length 0 (by omega))).mono ?_
 rintro e w' ⟨h1, m, rfl⟩
 exact ⟨h1, q9 (Below.refl _ _) m⟩⟩
theorem oneC_of (A : Option Addr) (c : Nat) (l : List Int) (w : World) (hC : Kd.C (Kd.int .i64) w A l.length l) (hc : l.length ≤ c) (hn : l.length ≤ 100) (h0 : ∀ k ∈ l, 0 ≤ k) : OneC A l.length c ((oneK 0 l).getD (-1)) w := ⟨fun W hW => by
 refine (qW.calls (l.length + 1) A c l _ W (Kd.C_below hC hW) hc (vU l hn h0 l.length 0 0 (by omega) (by omega))).mono ?_
 rintro e w' ⟨h1, m, rfl⟩
 exact ⟨h1, q9 (Below.refl _ _) m⟩⟩
def nodeOK (op : Int) (s : ByteArray) (l : List Int) : Bool := decide (7 ≤ op) && decide (op ≤ 29) && decide (1 ≤ l.length) && decide (l.length ≤ 33) && (decide (¬ op = 28) || decide (l.length % 2 = 1)) && (decide (¬ op = 29) || decide (¬ s.toList = ([115, 117, 98, 115, 116, 114] : List UInt8)) || decide (2 ≤ l.length)) && l.all fun k => decide (0 ≤ k)
theorem nodeOK_iff (op : Int) (s : ByteArray) (l : List Int) : nodeOK op s l = true ↔ ArK op s l.length ∧ 7 ≤ op ∧ ∀ k ∈ l, 0 ≤ k := by
 unfold nodeOK ArK;simp only [Bool.and_eq_true, Bool.or_eq_true, decide_eq_true_eq, List.all_eq_true]
 constructor
 · rintro ⟨⟨⟨⟨⟨⟨h1, h2⟩, h3⟩, h4⟩, h5⟩, h6⟩, h7⟩
   exact ⟨.inr ⟨h1, h2, h3, h4, fun h => h5.resolve_left (fun hn => hn h), fun ha hb => (h6.resolve_left (fun hh => hh.elim (fun hn => hn ha) (fun hn => hn hb)))⟩, h1, h7⟩
 · rintro ⟨h | ⟨h1, h2, h3, h4, h5, h6⟩, h7, h8⟩
   · omega
   · refine ⟨⟨⟨⟨⟨⟨h1, h2⟩, h3⟩, h4⟩, ?_⟩, ?_⟩, h8⟩
     · by_cases h : op = 28
       · exact .inr (h5 h)
       · exact .inl h
     · by_cases h : op = 29
       · by_cases hs : s.toList = ([115, 117, 98, 115, 116, 114] : List UInt8)
         · exact .inr (h6 h hs)
         · exact .inl (.inr hs)
       · exact .inl (.inl h)
def z8.f (aa ae af : Int) (ab : ByteArray) (l1 : List Int) : Option Int := if nodeOK aa ab l1 = true then some ((kindP aa ab l1).getD (-1)) else none
theorem xq (want give : Int) (ks : List Int) : (ks.all (fitK want) = true ∧ (xu want give ks).getD (-1) = give) ∨ (ks.all (fitK want) = false ∧ (xu want give ks).getD (-1) = -1) := by
 unfold xu
 by_cases h : ks.all (fitK want) = true
 · rw [if_pos h]; exact .inl ⟨h, rfl⟩
 · rw [if_neg h]; exact .inr ⟨by simpa using h, rfl⟩
theorem oneK_nn : ∀ (l : List Int) (k r : Int), 0 ≤ k → (∀ x ∈ l, 0 ≤ x) → oneK k l = some r → 0 ≤ r
 | [], k, r, hk, _, h => by injection h with h; omega
 | x :: l, k, r, hk, h0, h => by
  have hx := h0 x (List.mem_cons_self ..)
  have hl : ∀ y ∈ l, 0 ≤ y := fun y hy => h0 y (List.mem_cons_of_mem _ hy)
  simp only [oneK] at h
  by_cases h1 : x = 0 ∨ x = k
  · rw [if_pos h1] at h; exact oneK_nn l k r hk hl h
  · rw [if_neg h1] at h
    by_cases h2 : k = 0
    · rw [if_pos h2] at h; exact oneK_nn l x r hx hl h
    · rw [if_neg h2] at h; cases h
theorem rcall_all (s : ByteArray) (A : Option Addr) (c : Nat) (l : List Int) (w : World) (hC : Kd.C (Kd.int .i64) w A l.length l) (hc : l.length ≤ c) (hn : l.length ≤ 100) (h0 : ∀ k ∈ l, 0 ≤ k) (hsub : s.toList = ([115, 117, 98, 115, 116, 114] : List UInt8) → 2 ≤ l.length) :
 Calls Tryz.prog 75 #[.string s, .slice A l.length c] w (RetB (.int .i64 ((callK s l).getD (-1))) w) := by
 have hF := fun want => fitC_of A c l want w hC hc hn
 unfold callK
 by_cases a1 : s.toList = ([97, 98, 115] : List UInt8)
 · rw [if_pos a1]; exact rcall_fit s A _ c 2 2 _ _ w (.inl ⟨a1, rfl, rfl⟩) (xq 2 2 l) (hF 2)
 rw [if_neg a1]
 by_cases a2 : s.toList = ([108, 101, 110, 103, 116, 104] : List UInt8)
 · rw [if_pos a2]; exact rcall_fit s A _ c 3 2 _ _ w (.inr (.inl ⟨a2, rfl, rfl⟩)) (xq 3 2 l) (hF 3)
 rw [if_neg a2]
 by_cases a3 : s.toList = ([108, 111, 119, 101, 114] : List UInt8)
 · rw [if_pos a3]; exact rcall_fit s A _ c 3 3 _ _ w (.inr (.inr (.inl ⟨a3, rfl, rfl⟩))) (xq 3 3 l) (hF 3)
 rw [if_neg a3]
 by_cases a4 : s.toList = ([117, 112, 112, 101, 114] : List UInt8)
 · rw [if_pos a4]; exact rcall_fit s A _ c 3 3 _ _ w (.inr (.inr (.inr ⟨a4, rfl, rfl⟩))) (xq 3 3 l) (hF 3)
 rw [if_neg a4]
 by_cases a5 : s.toList = ([115, 117, 98, 115, 116, 114] : List UInt8)
 · rw [if_pos a5]
   have h2 := hsub a5;obtain ⟨ad, hA, _⟩ := Kd.at_int hC 0 (by omega) (by omega);subst hA;have ai : Kd.C (Kd.int .i64) w (some ad) (l.take 1).length (l.take 1) := Kd.C_take hC (by omega)
   have aj : Kd.C (Kd.int .i64) w (some (ad.add 1)) (l.drop 1).length (l.drop 1) := by
    have := Kd.C_drop (c := c) hC (m := 1) (by omega) hc;rw [if_neg (by omega)] at this
    exact this
   have H1 := fitC_of (some ad) c (l.take 1) 3 w ai (by rw [List.length_take]; omega) (by rw [List.length_take]; omega);have H2 := fitC_of (some (ad.add 1)) (c - 1) (l.drop 1) 2 w aj (by rw [List.length_drop]; omega) (by rw [List.length_drop]; omega);rw [List.length_take, Nat.min_eq_left (by omega)] at H1;rw [List.length_drop] at H2
   have e1 : (l.take 1).all (fitK 3) = fitK 3 (l.headD 0) := by
    cases l with
    | nil => simp at h2
    | cons x l => simp
   rw [e1] at H1;refine rcall_sub s ad l.length c _ _ _ w a5 h2 hc ?_ H1 H2
   by_cases f1 : fitK 3 (l.headD 0) = true
   · rw [if_pos f1]
     rcases xq 2 3 (l.drop 1) with ⟨h, h'⟩ | ⟨h, h'⟩
     · exact .inr (.inr ⟨f1, h, h'⟩)
     · exact .inr (.inl ⟨f1, h, h'⟩)
   · rw [if_neg f1]
     exact .inl ⟨by simpa using f1, rfl⟩
 rw [if_neg a5]
 exact rcall_one s A _ c _ w a1 a2 a3 a4 a5 (oneC_of A c l w hC hc hn h0)
theorem z8.calls (aa ac ae : Int) (ab : ByteArray) (A1 : Option Addr) (c1 : Nat) (l1 : List Int) (r : Int) (w : World) (ah : Kd.C (Kd.int .i64) w A1 l1.length l1) (aj : l1.length ≤ c1) (h : z8.f aa ac ae ab l1 = some r) :
 Calls Tryz.prog 35 #[.agg #[.int .i64 aa, .int .i64 ac, .int .i64 ae, .string ab], .slice A1 l1.length c1] w fun e w' => e = .returned (.int .i64 r) ∧ Below w.heap.size w w' := by
 unfold z8.f at h
 by_cases ho : nodeOK aa ab l1 = true
 case neg => rw [if_neg ho] at h; cases h
 rw [if_pos ho] at h
 injection h with h
 subst h;obtain ⟨hA, h7, h0⟩ := (nodeOK_iff aa ab l1).1 ho
 rcases hA with hA | ⟨_, av, h1, aw, hodd, hsub⟩
 · omega
 have hn : l1.length ≤ 100 := by omega
 have hF := fun want => fitC_of A1 c1 l1 want w ah aj hn
 unfold kindP
 by_cases b1 : aa = 7 ∨ (11 ≤ aa ∧ aa ≤ 15)
 · rw [if_pos b1]; exact rnode_fit aa 2 2 ac ae _ ab A1 _ c1 _ w (inAll_num b1) (xq 2 2 l1) (hF 2)
 rw [if_neg b1]
 by_cases b2 : aa = 16
 · rw [if_pos b2]; exact rnode_fit aa 3 3 ac ae _ ab A1 _ c1 _ w (by simp [vq, b2]) (xq 3 3 l1) (hF 3)
 rw [if_neg b2]
 by_cases b3 : aa = 8 ∨ aa = 23 ∨ aa = 24
 · rw [if_pos b3]; exact rnode_fit aa 1 1 ac ae _ ab A1 _ c1 _ w (by rcases b3 with rfl | rfl | rfl <;> simp [vq]) (xq 1 1 l1) (hF 1)
 rw [if_neg b3]
 by_cases b4 : aa = 25
 · rw [if_pos b4]; exact rnode_fit aa 3 1 ac ae _ ab A1 _ c1 _ w (by simp [vq, b4]) (xq 3 1 l1) (hF 3)
 rw [if_neg b4]
 by_cases b5 : (17 ≤ aa ∧ aa ≤ 22) ∨ aa = 26 ∨ aa = 27
 · rw [if_pos b5]
   refine rnode_one aa ac ae _ _ ab A1 _ c1 w (inOne_of b5) ?_ (oneC_of A1 c1 l1 w ah aj hn h0)
   cases ho : oneK 0 l1 with
   | none => exact .inl ⟨by decide, rfl⟩
   | some k => exact .inr ⟨oneK_nn l1 0 k (by omega) h0 ho, rfl⟩
 rw [if_neg b5]
 by_cases b6 : aa = 28
 · rw [if_pos b6]; subst b6
   exact rnode_case ac ae ab A1 c1 l1 w ah hn (hodd rfl) h0 ⟨fun acc v W ha h0 hW hR => by
    obtain ⟨A, c, rfl, hl, hC⟩ := Kd.R_reads hR
    exact (oneC_of A c acc W hC hl ha h0).out W (Below.refl _ _)⟩
 rw [if_neg b6]
 by_cases b7 : aa = 29
 · rw [if_pos b7]; subst b7
   exact rnode_call ac ae _ ab A1 _ c1 w ⟨fun W hW => rcall_all ab A1 c1 l1 W (Kd.C_below ah hW) aj hn h0 (hsub rfl)⟩
 rw [if_neg b7]
 exact rnode_null aa ac ae ab A1 _ c1 w (by omega)
end Go.Proofs.YtfmgbgkcmmpcfaaGreatDoor.PTk

