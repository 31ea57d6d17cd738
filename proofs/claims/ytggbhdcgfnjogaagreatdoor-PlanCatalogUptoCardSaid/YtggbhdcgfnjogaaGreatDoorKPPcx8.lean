import Derived.Test.YtggbhdcgfnjogaaGreatDoorKPPcx0
import Derived.Test.YtggbhdcgfnjogaaGreatDoorKPPcx2
import Derived.Test.YtggbhdcgfnjogaaGreatDoorKPPcx6
import Derived.Test.YtggbhdcgfnjogaaGreatDoorKPPcx7
namespace Go.Proofs.YtggbhdcgfnjogaaGreatDoor.PPc
open Go.RowKit Go.Proofs.YtggbhdcgfnjogaaGreatDoorW.PrintWords Go.Proofs.YtggbhdcgfnjogaaGreatDoorW.PrintLast Go.Proofs.YtggbhdcgfnjogaaGreatDoorW.PrintMore
set_option linter.unusedVariables false
set_option linter.unusedSimpArgs false
def numD (k : Nat) (s : ByteArray) (p most : Int) : Option (Option (Int × Int)) :=
 (qw.f k s p).bind fun r => if r.2.2 = 0 then (if most < r.1 then some none else some (some (r.1, r.2.1))) else some none
def colD (k : Nat) (s : ByteArray) (p : Int) : Option (Option (S49 × Int)) :=
 (xk.f k s p).bind fun r => if r.2.2 = 0 then (if (s.size : Int) ≤ r.2.1 then some none else if r.2.1 < 0 then none else some (some (⟨r.1, Go.bits .and .u8 (bt s r.2.1) 3, Go.bits .and .u8 (bt s r.2.1) 4 != 0⟩, r.2.1 + 1))) else some none
def Cu (W : World) (cb : Nat) (s : ByteArray) (p : Int) : Prop := W.heap[cb]? = some (.cells #[.string s, .int .i64 p] 45 (0, 0))
theorem Cu.c0 {W : World} {rb : Nat} {s : ByteArray} {p : Int} (h : Cu W rb s p) : W.cell? ⟨rb, 0, none⟩ = some (.string s) := (qe h 0).trans rfl
theorem Cu.c1 {W : World} {rb : Nat} {s : ByteArray} {p : Int} (h : Cu W rb s p) : W.cell? ⟨rb, 1, none⟩ = some (.int .i64 p) := (qe h 1).trans rfl
def faultV (b : Nat) : List PanicEntry := [{ v := .iface 65 (.pointer (some ⟨b, 0, none⟩)), recovered := false }]
theorem xD (code : Int) (w : World) : Calls Tryz.prog 11 #[.int .i64 code] w fun e w' => Below w.heap.size w w' ∧ ∃ b, e = .panicked (faultV b) := by
 have HB := Aside0.mk (Below.refl w.heap.size w)
 go_enter Tryz.func11, Tryz.ntmps11
 go_wp2
 exact ⟨rfl, qa HB.out _, _, rfl⟩
theorem xw (w : World) : Calls Tryz.prog 10 #[.int .i64 0] w fun e w' => e = .returned (.tuple #[]) ∧ w' = w := by
 go_enter Tryz.func10, Tryz.ntmps10
 go_wp2
 go_end0
 exact ⟨rfl, rfl⟩
theorem must_bad (code : Int) (w : World) (h : ¬ code = 0) : Calls Tryz.prog 10 #[.int .i64 code] w fun e w' => Below w.heap.size w w' ∧ ∃ b, e = .panicked (faultV b) := by
 have d1 : (code != 0) = true := by simpa using h
 go_enter Tryz.func10, Tryz.ntmps10
 go_wp2_with (first | (go_at_call 11; go_must (refine (xD code _).mono ?_; rintro e w1 ⟨hb, b, rfl⟩)))
 exact ⟨rfl, hb, b, rfl⟩
def numOut (w : World) (cb : Nat) (s : ByteArray) (R : Option (Int × Int)) (e : Ending) (w' : World) : Prop := w.grownBy w' (some cb) ∧ match R with
 | some (v, q) => e = .returned (.int .u64 v) ∧ Cu w' cb s q
 | none => ∃ b, e = .panicked (faultV b)
def cdV (x : S49) : Value := .agg #[.string x.f0, .int .i64 x.f1, .bool x.f2]
def colOut (w : World) (cb : Nat) (s : ByteArray) (R : Option (S49 × Int)) (e : Ending) (w' : World) : Prop := w.grownBy w' (some cb) ∧ match R with
 | some (x, q) => e = .returned (cdV x) ∧ Cu w' cb s q
 | none => ∃ b, e = .panicked (faultV b)
set_option maxHeartbeats 2000000 in
theorem zM (k cb : Nat) (s : ByteArray) (p most : Int) (w : World) (R : Option (Int × Int)) (hC : Cu w cb s p) (h : numD k s p most = some R) :
 Calls Tryz.prog 12 #[.pointer (some ⟨cb, 0, none⟩), .int .u64 most] w fun e w' => numOut w cb s R e w' := by
 unfold numD at h;obtain ⟨⟨v, nx, er⟩, hf, h2⟩ := Option.bind_eq_some_iff.1 h
 simp only at h2
 clear h;have HF := Aside0.mk hf;have h0 := hC.c0;have h1 := hC.c1;have HC := Aside0.mk hC;clear hC hf
 go_enter Tryz.func12, Tryz.ntmps12
 go_wp2_with fail
 go_quiet (first | (go_at_call 22; exact Calls.quiet_of ((qw.calls k s p v nx er _ HF.out).mono fun _ _ h => ⟨h.1, h.2.out⟩)))
 have HC1 : Aside0 (Cu (w.drewN nq) cb s p) := ⟨qc HC.out _⟩;have HG1 : Aside0 (w.grownBy (w.drewN nq) (some cb)) := ⟨zd (q8 (Below.refl _ _) nq) _⟩;generalize w.drewN nq = W1 at *;have hf := q9 HC1.out 1;have h0 := HC1.out.c0;have h1 := HC1.out.c1
 by_cases he : er = 0
 case neg =>
  rw [if_neg he] at h2;obtain rfl := Option.some.inj h2
  go_wp2_with (first | (go_at_call 10; go_must (refine (must_bad er _ he).mono ?_; rintro e w2 ⟨hb, b, rfl⟩)))
  exact ⟨rfl, HG1.out.trans (zd hb _), b, rfl⟩
 rw [if_pos he] at h2;subst he
 by_cases hm : most < v
 · rw [if_pos hm] at h2
   obtain rfl := Option.some.inj h2;have d1 : decide (most < v) = true := decide_eq_true hm
   go_wp2_with (first
    | (go_at_call 10; go_must (refine (xw _).mono ?_; rintro e w2 ⟨rfl, rfl⟩))
    | (go_at_call 11; go_must (refine (xD 169 _).mono ?_; rintro e w3 ⟨hb, b, rfl⟩)))
   exact ⟨rfl, HG1.out.trans (zd hb _), b, rfl⟩
 · rw [if_neg hm] at h2
   obtain rfl := Option.some.inj h2;have d1 : decide (most < v) = false := decide_eq_false hm
   go_wp2_with (first
    | (go_at_call 10; go_must (refine (xw _).mono ?_; rintro e w2 ⟨rfl, rfl⟩)))
   go_ret
   exact ⟨grown_set HG1.out 1 _, rfl, qu HC1.out 1 _ (by simp)⟩
theorem end3c {w w1 : World} {rb g : Nat} {q : Int} {s : ByteArray} (hg : w.heap.size ≤ g) (hrb : rb < w.heap.size) (HR : Cu w1 rb s q) (HG : w.grownBy w1 (some rb)) {a b c : Value} (a' b' c' : Value) (hh : w1.heap[g]? = some (.cells #[a, b, c] 49 (0, 0))) :
 (((w1.setCell ⟨g, 0, none⟩ a').setCell ⟨g, 1, none⟩ b').setCell ⟨g, 2, none⟩ c').heap[g]? = some (.cells #[a', b', c'] 49 (0, 0))
 ∧ Cu (((w1.setCell ⟨g, 0, none⟩ a').setCell ⟨g, 1, none⟩ b').setCell ⟨g, 2, none⟩ c') rb s q ∧ w.grownBy (((w1.setCell ⟨g, 0, none⟩ a').setCell ⟨g, 1, none⟩ b').setCell ⟨g, 2, none⟩ c') (some rb) := by
 have hne : rb ≠ g := by omega
 refine ⟨qu (qu (qu hh 0 a' rfl) 1 b' rfl) 2 c' rfl, ?_, xf (xf (xf HG g hg _ _) g hg _ _) g hg _ _⟩;unfold Cu;rw [heap_setCell_other _ _ rb _ hne, heap_setCell_other _ _ rb _ hne, heap_setCell_other _ _ rb _ hne]
 exact HR
theorem new3d {w w1 : World} {rb : Nat} {a b c : Value} (hrb : rb < w.heap.size) (hg : (w.alloc (.cells #[a, b, c] 49)).grownBy w1 (some rb)) : w1.heap[w.heap.size]? = some (.cells #[a, b, c] 49 (0, 0)) := (hg.block w.heap.size (by simp) (by simp; omega)).trans (heap_alloc_new w _)
theorem new3e {W : World} {g : Nat} {a b c : Value} (hh : W.heap[g]? = some (.cells #[a, b, c] 49 (0, 0))) : W.cell? ⟨g, 0, none⟩ = some a ∧ W.cell? ⟨g, 1, none⟩ = some b ∧ W.cell? ⟨g, 2, none⟩ = some c ∧ W.frozen? ⟨g, 0, none⟩ = false ∧ W.frozen? ⟨g, 1, none⟩ = false ∧ W.frozen? ⟨g, 2, none⟩ = false :=
 ⟨(qe hh 0).trans rfl, (qe hh 1).trans rfl, (qe hh 2).trans rfl, q9 hh 0, q9 hh 1, q9 hh 2⟩
set_option maxHeartbeats 4000000 in
theorem column_calls (k cb : Nat) (s : ByteArray) (p : Int) (w : World) (R : Option (S49 × Int)) (hC : Cu w cb s p) (hs : s.size ≤ 1000000000) (h : colD k s p = some R) :
 Calls Tryz.prog 13 #[.pointer (some ⟨cb, 0, none⟩)] w fun e w' => colOut w cb s R e w' := by
 unfold colD at h;obtain ⟨⟨v, nx, er⟩, hf, h2⟩ := Option.bind_eq_some_iff.1 h
 simp only at h2
 clear h;have HF := Aside0.mk hf;have hrb := qK hC;have h0 := hC.c0;have h1 := hC.c1;have HC := Aside0.mk hC;clear hC hf
 go_enter Tryz.func13, Tryz.ntmps13
 go_wp2_with fail
 go_quiet (first | (go_at_call 23; exact Calls.quiet_of ((xk.calls k s p v nx er _ HF.out).mono fun _ _ h => ⟨h.1, h.2.out⟩)))
 have HC1 : Cu ((w.alloc (.cells #[.string ⟨#[]⟩, .int .i64 0, .bool false] 49)).drewN nq) cb s p := qc (qb HC.out _) _;have HG1 : (w.alloc (.cells #[.string ⟨#[]⟩, .int .i64 0, .bool false] 49)).grownBy ((w.alloc (.cells #[.string ⟨#[]⟩, .int .i64 0, .bool false] 49)).drewN nq) (some cb) := zd (q8 (Below.refl _ _) nq) _;generalize (w.alloc (.cells #[.string ⟨#[]⟩, .int .i64 0, .bool false] 49)).drewN nq = W1 at *;have hfz := q9 HC1 1;have h0 := HC1.c0;have h1 := HC1.c1;have HH := Aside0.mk (new3d hrb HG1)
 have hne : ¬ w.heap.size = cb := by omega
 have hne2 : ¬ cb = w.heap.size := by omega
 obtain ⟨hc0, hc1, hc2, hf0, hf1, hf2⟩ := new3e HH.out;have HG1 := Aside0.mk (z7 HG1);have HC1 := Aside0.mk HC1
 by_cases he : er = 0
 case neg =>
  rw [if_neg he] at h2;obtain rfl := Option.some.inj h2
  go_wp2_with (first | (go_at_call 10; go_must (refine (must_bad er _ he).mono ?_; rintro e w2 ⟨hb, b, rfl⟩)))
  exact ⟨rfl, HG1.out.trans (zd hb _), b, rfl⟩
 rw [if_pos he] at h2;subst he
 by_cases hm : (s.size : Int) ≤ nx
 · rw [if_pos hm] at h2
   obtain rfl := Option.some.inj h2;have d1 : decide ((s.size : Int) ≤ nx) = true := decide_eq_true hm
   go_wp2_with (first
    | (go_at_call 10; go_must (refine (xw _).mono ?_; rintro e w2 ⟨rfl, rfl⟩))
    | (go_at_call 11; go_must (refine (xD 169 _).mono ?_; rintro e w3 ⟨hb, b, rfl⟩)))
   exact ⟨rfl, HG1.out.trans (zd hb _), b, rfl⟩
 rw [if_neg hm] at h2
 by_cases hneg : nx < 0
 · rw [if_pos hneg] at h2; cases h2
 rw [if_neg hneg] at h2;obtain rfl := Option.some.inj h2;obtain ⟨m, rfl⟩ : ∃ m : Nat, nx = (m : Int) := ⟨nx.toNat, by omega⟩
 have hms : m < s.size := by omega
 have d1 : decide ((s.size : Int) ≤ (m : Int)) = false := decide_eq_false (by omega);have d2 : decide ((m : Int) < (s.size : Int)) = true := decide_eq_true (by omega);have d3 : decide (m < s.size) = true := decide_eq_true hms;have d4 : decide (s.size ≤ m) = false := decide_eq_false (by omega)
 have hb : ∀ h : m < s.size, ((s[m]'h).toNat : Int) = bt s (m : Int) := fun h => zH s (m : Int) h
 obtain ⟨y0, y1⟩ := zG s (m : Int);obtain ⟨y, hy⟩ : ∃ y, bt s (m : Int) = y := ⟨_, rfl⟩;rw [hy] at y0 y1 hb;have HY := Aside0.mk hy;clear hy
 have hk : ∀ b : Fin 256, Go.bits .and .u8 (b.val : Int) 3 = (b.val : Int) % 4 := by decide +kernel
 have hk4 : 0 ≤ Go.bits .and .u8 y 3 ∧ Go.bits .and .u8 y 3 ≤ 3 := by
  obtain ⟨z, rfl⟩ := Int.eq_ofNat_of_zero_le y0;have := hk ⟨z, by omega⟩
  simp only at this
  rw [this]
  omega
 clear hk;obtain ⟨z0, z1⟩ := hk4
 have hwz : wrap64 (Go.bits .and .u8 y 3) = Go.bits .and .u8 y 3 := by unfold wrap64; omega
 go_wp2_with (first
  | (go_at_call 10; go_must (refine (xw _).mono ?_; rintro e w2 ⟨rfl, rfl⟩)))
 have HC2 : Cu (w2.setCell ⟨cb, 1, none⟩ (.int .i64 ((m : Int) + 1))) cb s ((m : Int) + 1) := qu HC1.out 1 _ (by simp);have HG2 := grown_set HG1.out 1 (.int .i64 ((m : Int) + 1));have HH2 := (heap_setCell_other w2 ⟨cb, 1, none⟩ w.heap.size (.int .i64 ((m : Int) + 1)) hne).trans HH.out;obtain ⟨E0, E1, E2⟩ := end3c (Nat.le_refl _) hrb HC2 HG2 (.string v) (.int .i64 (Go.bits .and .u8 y 3)) (.bool (Go.bits .and .u8 y 4 != 0)) HH2;rw [HY.out];refine bodyPost_ret (results_cell_row rfl _ _ w.heap.size 49 _ (0, 0) _ rfl E0 Tryz.underlying49 rfl (by kernel_rfl)) rfl ?_
 exact ⟨E2, rfl, E1⟩
abbrev TabR := ByteArray × Int × List S49 × List Int × Int
def badT : TabR := (⟨#[]⟩, 0, [], [], 169)
def colsD (k : Nat) (s : ByteArray) : Nat → Int → Option (Option (List S49 × Int))
 | 0, p => some (some ([], p))
 | n + 1, p => (colD k s p).bind fun r => match r with
  | none => some none
  | some (c, q) => (colsD k s n q).bind fun r2 => match r2 with
   | none => some none
   | some (l, q2) => some (some (c :: l, q2))
def keysD (k : Nat) (s : ByteArray) : Nat → Int → Option (Option (List Int × Int))
 | 0, p => some (some ([], p))
 | n + 1, p => (numD k s p 16).bind fun r => match r with
  | none => some none
  | some (c, q) => (keysD k s n q).bind fun r2 => match r2 with
   | none => some none
   | some (l, q2) => some (some (wrap64 c :: l, q2))
def decEnd (k : Nat) (a0 a1 nm : ByteArray) (num : Int) (cols : List S49) (key : List Int) : Option TabR :=
 (qx.f k nm num cols key).bind fun E => if E.2.2 = 0 then (if E.1 = a0 ∧ E.2.1 = a1 then some (nm, num, cols, key, 0) else some badT) else some badT
def decKeys (k : Nat) (a0 a1 nm : ByteArray) (num : Int) (cols : List S49) (p : Int) : Option TabR :=
 (numD k a1 p 8).bind fun r => match r with
  | none => some badT
  | some (n, q) => (keysD k a1 n.toNat q).bind fun r2 => match r2 with
   | none => some badT
   | some (key, _) => decEnd k a0 a1 nm num cols key
def decCols (k : Nat) (a0 a1 nm : ByteArray) (num : Int) (p : Int) : Option TabR :=
 (numD k a1 p 16).bind fun r => match r with
  | none => some badT
  | some (n, q) => (colsD k a1 n.toNat q).bind fun r2 => match r2 with
   | none => some badT
   | some (cols, q2) => decKeys k a0 a1 nm num cols q2
def decNum (k : Nat) (a0 a1 nm : ByteArray) : Option TabR :=
 (numD k a1 0 9223372036854775807).bind fun r => match r with
  | none => some badT
  | some (n, q) => decCols k a0 a1 nm (wrap64 n) q
def zq.f (k : Nat) (a0_0 a0_1 : ByteArray) : Option TabR :=
 if a0_1.size ≤ 1000000000 then (zF.f a0_0).bind fun K => if K.2 = 0 then (if K.1.length = 2 then decNum k a0_0 a0_1 (qJ K.1 1).f2 else some badT) else some badT else none
def decOut (w : World) (r : TabR) (e : Ending) (w' : World) : Prop :=
 ∃ v2_ v3_ : Value, e = .returned (.tuple #[.agg #[.string r.1, .int .i64 r.2.1, v2_, v3_], .int .i64 r.2.2.2.2]) ∧ Kd.R k49 49 w' w.heap.size (fun _ => True) v2_ r.2.2.1 ∧ Kd.R (Kd.int .i64) 3 w' w.heap.size (fun _ => True) v3_ r.2.2.2.1 ∧ Below w.heap.size w w'
structure Dt (w W : World) (a0 a1 nm : ByteArray) (num : Int) (cv kv : Value) : Prop where
 p : W.heap[w.heap.size]? = some (.cells #[.string a0, .string a1] 23 (0, 0))
 t : W.heap[w.heap.size + 1]? = some (.cells #[.string nm, .int .i64 num, cv, kv] 27 (0, 0))
 e : W.heap[w.heap.size + 2]? = some (.cells #[.int .i64 0] 28 (0, 0))
 b : Below w.heap.size w W
theorem Dt.size {w W : World} {a0 a1 nm : ByteArray} {num : Int} {cv kv : Value} (h : Dt w W a0 a1 nm num cv kv) : w.heap.size + 3 ≤ W.heap.size := by have := qK h.e; omega
theorem Dt.below {w W W1 : World} {a0 a1 nm : ByteArray} {num : Int} {cv kv : Value} (h : Dt w W a0 a1 nm num cv kv) (hb : Below W.heap.size W W1) : Dt w W1 a0 a1 nm num cv kv := ⟨qp h.p hb, qp h.t hb, qp h.e hb, vi h.b (by have := h.size; omega) hb⟩
theorem Dt.grown {w W W1 : World} {a0 a1 nm s : ByteArray} {num q : Int} {cv kv : Value} {cb : Nat} (h : Dt w W a0 a1 nm num cv kv) (hc : Cu W cb s q) (hcb : w.heap.size ≤ cb) (hg : W.grownBy W1 (some cb)) : Dt w W1 a0 a1 nm num cv kv := by
 have h0 : cb ≠ w.heap.size := by
  rintro rfl
  have := h.p;unfold Cu at hc;rw [hc] at this
  injection this with this
  injection this with _ this
  exact absurd this (by decide)
 have h1 : cb ≠ w.heap.size + 1 := by
  rintro rfl
  have := h.t;unfold Cu at hc;rw [hc] at this
  injection this with this
  injection this with _ this
  exact absurd this (by decide)
 have h2 : cb ≠ w.heap.size + 2 := by
  rintro rfl
  have := h.e;unfold Cu at hc;rw [hc] at this
  injection this with this
  injection this with _ this
  exact absurd this (by decide)
 exact ⟨za h.p hg (fun e => h0 (by injection e; omega)), za h.t hg (fun e => h1 (by injection e; omega)), za h.e hg (fun e => h2 (by injection e; omega)), xK h.b (some cb) (by have := h.size; omega) hg (fun k hk => by injection hk with hk; omega)⟩
theorem catchd_idle (p q : Addr) (w : World) :
 CallsD Tryz.prog 8 #[.pointer (some p), .pointer (some q)] .returning w fun e u' w' => e = .returned (.tuple #[]) ∧ u' = .returning ∧ w' = w := by
 refine callsD_of_wpS Tryz.func8 rfl fun c₀ cs hu => ?_
 apply wpS_seq
 apply wpS_region
 simp [wpOpsS, go_sem, recoverD, hu, Tryz.ntmps8, Exit.thenS]
 refine wpS_of_wp ?_;change Code.wp _ _ _ { tmps := #[.pointer (some p), .pointer (some q), .nilIface, .nilIface, undef, undef, undef], defers := [] } _;go_wp2;refine ⟨rfl, .returning, ?_, _, results_none rfl _ _ _, rfl, rfl, rfl⟩
 cases c₀
 simp_all
theorem catchd_fault (g h b : Nat) (n0 n1 n2 n3 q0 : Value) (w : World) (hP : w.heap[g]? = some (.cells #[n0, n1, n2, n3] 27 (0, 0))) (hQ : w.heap[h]? = some (.cells #[q0] 28 (0, 0))) (hne : ¬ g = h) :
 CallsD Tryz.prog 8 #[.pointer (some ⟨g, 0, none⟩), .pointer (some ⟨h, 0, none⟩)] (.panicking [{ v := .iface 65 (.pointer (some ⟨b, 0, none⟩)), recovered := false }]) w fun e u' w' =>
  e = .returned (.tuple #[]) ∧ u' = .panicking [{ v := .iface 65 (.pointer (some ⟨b, 0, none⟩)), recovered := true }] ∧ w' = ((((w.setCell ⟨g, 0, none⟩ (.string ⟨#[]⟩)).setCell ⟨g, 1, none⟩ (.int .i64 0)).setCell ⟨g, 2, none⟩ (.slice none 0 0)).setCell ⟨g, 3, none⟩ (.slice none 0 0)).setCell ⟨h, 0, none⟩ (.int .i64 169) := by
 have hg := qK hP;have hh := qK hQ;have c0 := (qe hP 0).trans rfl;have c1 := (qe hP 1).trans rfl;have c2 := (qe hP 2).trans rfl;have c3 := (qe hP 3).trans rfl;have f0 := q9 hP 0;have f1 := q9 hP 1;have f2 := q9 hP 2;have f3 := q9 hP 3;have c4 := (qe hQ 0).trans rfl;have f4 := q9 hQ 0
 have hne2 : ¬ h = g := fun e => hne e.symm
 refine callsD_of_wpS Tryz.func8 rfl fun c₀ cs hu => ?_
 apply wpS_seq
 apply wpS_region
 simp [wpOpsS, go_sem, recoverD, hu, Tryz.ntmps8, Exit.thenS]
 refine wpS_of_wp ?_;change Code.wp _ _ _ { tmps := #[.pointer (some ⟨g, 0, none⟩), .pointer (some ⟨h, 0, none⟩), .iface 65 (.pointer (some ⟨b, 0, none⟩)), .iface 65 (.pointer (some ⟨b, 0, none⟩)), undef, undef, undef], defers := [] } _;go_wp2;refine ⟨rfl, .panicking [{ v := .iface 65 (.pointer (some ⟨b, 0, none⟩)), recovered := true }], ?_, _, results_none rfl _ _ _, rfl, rfl, rfl⟩
 cases c₀
 simp_all
theorem xm (w W : World) (a0 a1 nm : ByteArray) (num : Int) (cv kv x0 x1 : Value) (b : Nat) (rest : List Value) (HD : Dt w W a0 a1 nm num cv kv) :
 bodyPostD Tryz.prog Tryz.f4 (fun e w' => decOut w badT e w') (Exit.panic (faultV b))
  { tmps := (x0 :: x1 :: .pointer (some ⟨w.heap.size + 1, 0, none⟩) :: .pointer (some ⟨w.heap.size + 1 + 1, 0, none⟩) :: rest).toArray, defers := [{ target := .fn (.func 8) #[.pointer (some ⟨w.heap.size + 1, 0, none⟩), .pointer (some ⟨w.heap.size + 1 + 1, 0, none⟩)], args := #[] }] } W := by
 refine leaves_cons (f := 8) (args := #[.pointer (some ⟨w.heap.size + 1, 0, none⟩), .pointer (some ⟨w.heap.size + 1 + 1, 0, none⟩)]) (by simp) (by simp [go_sem]) ?_;refine (catchd_fault (w.heap.size + 1) (w.heap.size + 1 + 1) b _ _ _ _ _ W HD.t HD.e (by omega)).mono ?_
 rintro e u' w2 ⟨rfl, rfl, rfl⟩
 have t4 := qu (qu (qu (qu HD.t 0 (.string ⟨#[]⟩) rfl) 1 (.int .i64 0) rfl) 2 (.slice none 0 0) rfl) 3 (.slice none 0 0) rfl
 have hx : ∀ (i : Nat) (v : Value) (Z : World), (Z.setCell ⟨w.heap.size + 1, i, none⟩ v).heap[w.heap.size + 1 + 1]? = Z.heap[w.heap.size + 1 + 1]? := fun i v Z => heap_setCell_other _ ⟨w.heap.size + 1, i, none⟩ (w.heap.size + 1 + 1) v (by show w.heap.size + 1 + 1 ≠ w.heap.size + 1; omega)
 have e4 := qu ((hx 3 (.slice none 0 0) _).trans ((hx 2 (.slice none 0 0) _).trans ((hx 1 (.int .i64 0) _).trans ((hx 0 (.string ⟨#[]⟩) W).trans HD.e)))) 0 (.int .i64 169) rfl;have t5 := (heap_setCell_other _ ⟨w.heap.size + 1 + 1, 0, none⟩ (w.heap.size + 1) (.int .i64 169) (by show w.heap.size + 1 ≠ w.heap.size + 1 + 1; omega)).trans t4;have HB : Below w.heap.size w (((((W.setCell ⟨w.heap.size + 1, 0, none⟩ (.string ⟨#[]⟩)).setCell ⟨w.heap.size + 1, 1, none⟩ (.int .i64 0)).setCell ⟨w.heap.size + 1, 2, none⟩ (.slice none 0 0)).setCell ⟨w.heap.size + 1, 3, none⟩ (.slice none 0 0)).setCell ⟨w.heap.size + 1 + 1, 0, none⟩ (.int .i64 169)) := qf (qf (qf (qf (qf HD.b (by omega)) (by omega)) (by omega)) (by omega)) (by omega);generalize ((((W.setCell ⟨w.heap.size + 1, 0, none⟩ (.string ⟨#[]⟩)).setCell ⟨w.heap.size + 1, 1, none⟩ (.int .i64 0)).setCell ⟨w.heap.size + 1, 2, none⟩ (.slice none 0 0)).setCell ⟨w.heap.size + 1, 3, none⟩ (.slice none 0 0)).setCell ⟨w.heap.size + 1 + 1, 0, none⟩ (.int .i64 169) = W2 at *;have c0 : W2.cell? ⟨w.heap.size + 1, 0, none⟩ = some (.string ⟨#[]⟩) := (qe t5 0).trans rfl;have c1 : W2.cell? ⟨w.heap.size + 1, 1, none⟩ = some (.int .i64 0) := (qe t5 1).trans rfl;have c2 : W2.cell? ⟨w.heap.size + 1, 2, none⟩ = some (.slice none 0 0) := (qe t5 2).trans rfl;have c3 : W2.cell? ⟨w.heap.size + 1, 3, none⟩ = some (.slice none 0 0) := (qe t5 3).trans rfl;have c4 : W2.cell? ⟨w.heap.size + 1 + 1, 0, none⟩ = some (.int .i64 169) := (qe e4 0).trans rfl
 simp [Leaves, settle, results, Tryz.results4, go_sem, c0, c1, c2, c3, c4]
 exact ⟨_, _, rfl, Kd.R_nil _ _ _ _ _, Kd.R_nil _ _ _ _ _, HB⟩
theorem dec_ends (w W : World) (a0 a1 nm : ByteArray) (num : Int) (cv kv x0 x1 : Value) (cols : List S49) (key : List Int) (rest : List Value) (HD : Dt w W a0 a1 nm num cv kv)
 (hc : Kd.R k49 49 W w.heap.size (fun _ => True) cv cols) (hk : Kd.R (Kd.int .i64) 3 W w.heap.size (fun _ => True) kv key) :
 bodyPostD Tryz.prog Tryz.f4 (fun e w' => decOut w (nm, num, cols, key, 0) e w') Exit.ret
  { tmps := (x0 :: x1 :: .pointer (some ⟨w.heap.size + 1, 0, none⟩) :: .pointer (some ⟨w.heap.size + 1 + 1, 0, none⟩) :: rest).toArray, defers := [{ target := .fn (.func 8) #[.pointer (some ⟨w.heap.size + 1, 0, none⟩), .pointer (some ⟨w.heap.size + 1 + 1, 0, none⟩)], args := #[] }] } W := by
 refine leaves_cons (f := 8) (args := #[.pointer (some ⟨w.heap.size + 1, 0, none⟩), .pointer (some ⟨w.heap.size + 1 + 1, 0, none⟩)]) (by simp) (by simp [go_sem]) ?_;refine (catchd_idle ⟨w.heap.size + 1, 0, none⟩ ⟨w.heap.size + 1 + 1, 0, none⟩ _).mono ?_
 rintro e u' w2 ⟨rfl, rfl, rfl⟩
 have c0 := (qe HD.t 0).trans rfl;have c1 := (qe HD.t 1).trans rfl;have c2 := (qe HD.t 2).trans rfl;have c3 := (qe HD.t 3).trans rfl;have c4 := (qe HD.e 0).trans rfl
 simp [Leaves, settle, results, Tryz.results4, go_sem, c0, c1, c2, c3, c4]
 exact ⟨_, _, rfl, hc, hk, HD.b⟩
theorem dt_new (w : World) (a0 a1 : ByteArray) : Dt w (((w.alloc (.cells #[.string a0, .string a1] 23)).alloc (.cells #[.string ⟨#[]⟩, .int .i64 0, .slice none 0 0, .slice none 0 0] 27)).alloc (.cells #[.int .i64 0] 28)) a0 a1 ⟨#[]⟩ 0 (.slice none 0 0) (.slice none 0 0) := by
 refine ⟨qb (qb (heap_alloc_new w _) _) _, ?_, ?_, qa (qa (qa (Below.refl _ _) _) _) _⟩
 · have := qb (heap_alloc_new (w.alloc (.cells #[.string a0, .string a1] 23)) (.cells #[.string ⟨#[]⟩, .int .i64 0, .slice none 0 0, .slice none 0 0] 27)) (.cells #[.int .i64 0] 28)
   rw [World.size_alloc] at this
   exact this
 · have := heap_alloc_new ((w.alloc (.cells #[.string a0, .string a1] 23)).alloc (.cells #[.string ⟨#[]⟩, .int .i64 0, .slice none 0 0, .slice none 0 0] 27)) (.cells #[.int .i64 0] 28)
   rw [World.size_alloc, World.size_alloc] at this
   exact this
theorem Dt.set {w W : World} {a0 a1 nm nm2 : ByteArray} {num num2 : Int} {cv kv cv2 kv2 : Value} (h : Dt w W a0 a1 nm num cv kv) (i : Nat) (v : Value) (hv : (#[.string nm, .int .i64 num, cv, kv] : Array Value).setIfInBounds i v = #[.string nm2, .int .i64 num2, cv2, kv2]) : Dt w (W.setCell ⟨w.heap.size + 1, i, none⟩ v) a0 a1 nm2 num2 cv2 kv2 :=
 ⟨(heap_setCell_other _ ⟨w.heap.size + 1, i, none⟩ w.heap.size v (by show w.heap.size ≠ w.heap.size + 1; omega)).trans h.p, qu h.t i v hv, (heap_setCell_other _ ⟨w.heap.size + 1, i, none⟩ (w.heap.size + 2) v (by show w.heap.size + 2 ≠ w.heap.size + 1; omega)).trans h.e, qf h.b (by omega)⟩
theorem Dt.ne {w W : World} {a0 a1 nm s : ByteArray} {num q : Int} {cv kv : Value} {cb : Nat} (h : Dt w W a0 a1 nm num cv kv) (hc : Cu W cb s q) : cb ≠ w.heap.size + 1 := by
 rintro rfl
 have := h.t;unfold Cu at hc;rw [hc] at this
 injection this with this
 injection this with _ this
 exact absurd this (by decide)
theorem Cu.set {w W : World} {a0 a1 nm s : ByteArray} {num q : Int} {cv kv : Value} {cb : Nat} (hc : Cu W cb s q) (h : Dt w W a0 a1 nm num cv kv) (i : Nat) (v : Value) : Cu (W.setCell ⟨w.heap.size + 1, i, none⟩ v) cb s q :=
 (heap_setCell_other _ ⟨w.heap.size + 1, i, none⟩ cb v (h.ne hc)).trans hc
structure DtF (w W : World) (a0 a1 nm : ByteArray) (num : Int) (cv kv : Value) : Prop where
 p0 : W.cell? ⟨w.heap.size, 0, none⟩ = some (.string a0)
 p1 : W.cell? ⟨w.heap.size, 1, none⟩ = some (.string a1)
 t0 : W.cell? ⟨w.heap.size + 1, 0, none⟩ = some (.string nm)
 t1 : W.cell? ⟨w.heap.size + 1, 1, none⟩ = some (.int .i64 num)
 t2 : W.cell? ⟨w.heap.size + 1, 2, none⟩ = some cv
 t3 : W.cell? ⟨w.heap.size + 1, 3, none⟩ = some kv
 e0 : W.cell? ⟨w.heap.size + 1 + 1, 0, none⟩ = some (.int .i64 0)
 f0 : W.frozen? ⟨w.heap.size + 1, 0, none⟩ = false
 f1 : W.frozen? ⟨w.heap.size + 1, 1, none⟩ = false
 f2 : W.frozen? ⟨w.heap.size + 1, 2, none⟩ = false
 f3 : W.frozen? ⟨w.heap.size + 1, 3, none⟩ = false
 f4 : W.frozen? ⟨w.heap.size + 1 + 1, 0, none⟩ = false
theorem Dt.facts {w W : World} {a0 a1 nm : ByteArray} {num : Int} {cv kv : Value} (h : Dt w W a0 a1 nm num cv kv) : DtF w W a0 a1 nm num cv kv :=
 ⟨(qe h.p 0).trans rfl, (qe h.p 1).trans rfl, (qe h.t 0).trans rfl, (qe h.t 1).trans rfl, (qe h.t 2).trans rfl, (qe h.t 3).trans rfl, (qe h.e 0).trans rfl, q9 h.t 0, q9 h.t 1, q9 h.t 2, q9 h.t 3, q9 h.e 0⟩
theorem step_kd {α : Type} (d : Kd α) {w0 W : World} {P : Program} {ops : Array Oper} {o : Oper} {a : Act} {K : Act → World → Prop} {Q : Exit → Act → World → Prop} {E : Prop} (base : Nat) (hgd : o.guard = none) (s x : Operand) (t e : TypeId) (z : Value) (bytes : Nat)
 (ho : o.op = .call { callee := .builtin .append, args := #[s, x], argTypes := #[t, t] })
 (ht : P.underlying t = some (.slice e)) (hinfo : (P.info? e).map (fun i => (i.zero, i.size, i.bytes)) = some (some z, d.sz, bytes)) (hz : z.cells.size = d.sz) (hs0 : 0 < d.sz) (hb0 : 0 < bytes)
 (v : Value) (xs : List α) (p : α) (cs : List Value) (ok okp : Nat → Prop) (hs : a.eval s = v) (hx : a.eval x = .slice (some ⟨W.heap.size, 0, none⟩) 1 1) (hp : d.M W base okp p cs) (hokp : ∀ k, okp k → ok k ∧ some k ≠ v.ownBlock) (hfresh : ∀ k, W.heap.size ≤ k → ok k)
 (HO : d.R e W base ok v xs) (HB : Below base w0 W) (hbase : base ≤ W.heap.size) (hl : (xs.length + 1) * bytes ≤ 140737488355328)
 (h : ∀ v1 w1, d.R e w1 base ok v1 (xs ++ [p]) → Below base w0 w1 → W.grownBy w1 v.ownBlock → (v1.ownBlock = v.ownBlock ∨ ∃ b, v1.ownBlock = some b ∧ W.heap.size ≤ b) → K (a.put o.dst v1) w1) :
 if Region.wanted o (yielded ops a.tmps) = true then Oper.wp P o a (W.alloc (.cells cs.toArray e)) K Q else E := by
 have hw : Region.wanted o (yielded ops a.tmps) = true := by simp [Region.wanted, hgd]
 rw [if_pos hw];obtain ⟨h0, inner, hown, hr⟩ := HO;obtain ⟨i0, hi, hzz⟩ := Option.map_eq_some_iff.1 hinfo;simp only [Prod.mk.injEq] at hzz;obtain ⟨hz0, hz1, hz2⟩ := hzz;have hn1 : xs.length + 1 ≤ 140737488355328 := Nat.le_trans (Nat.le_mul_of_pos_right _ hb0) hl;have hys := d.K_len (d.K_of_M hp);obtain ⟨v1, w1, hrun, hown1, hg, _, hat⟩ := run_append_own_at (P := P) (W.alloc (.cells cs.toArray e)) base t o.type e i0 z d.sz bytes ht hi hz0 hz1 hz2 hz hs0 v xs.length inner (hown.alloc _) ⟨W.heap.size, 0, none⟩ 1 1 cs (by rw [hys]; simp)
  (by simpa using World.news_of_block (cs := cs.toArray) (t := e) (fr := (0, 0)) (heap_alloc_new W (.cells cs.toArray e))) (d.K_one (d.K_of_M hp)) (by simp only [maxLen]; omega) hl (by simp; omega)
 have hg1 := World.grownBy.trans (World.grownBy_alloc W _ _) hg
 have hat1 : v1.ownBlock = v.ownBlock ∨ ∃ b, v1.ownBlock = some b ∧ W.heap.size ≤ b := by
  rcases hat with hat | hat
  · exact .inl hat
  · exact .inr ⟨_, hat, by simp⟩
 unfold Oper.wp execOp;simp only [ho, resolve, invoke, builtin, Sem.run_bind, Sem.run_pure, Result.andThen_ok, List.map_toArray, List.map_cons, List.map_nil, hs, hx, hrun]
 exact h v1 w1 (Kd.R_appended h0 hr hp hokp hfresh hown1 hg1 hat1) ((HB.alloc hbase _).grown hg (by simp; omega) (xi hown)) hg1 hat1
def noPanic (Q : Exit → Act → World → Prop) : Exit → Act → World → Prop := fun e a w => match e with
 | .panic _ => False
 | e => Q e a w
theorem noPanic_le {Q : Exit → Act → World → Prop} : ∀ e a w, noPanic Q e a w → Q e a w := by
 intro e a w h
 cases e <;> first | exact h | exact h.elim
theorem infoCol : (Tryz.prog.info? 49).map (fun i => (i.zero, i.size, i.bytes)) = some (some (.agg #[.string ⟨#[]⟩, .int .i64 0, .bool false]), 3, 32) := by kernel_rfl
theorem infoInt : (Tryz.prog.info? 3).map (fun i => (i.zero, i.size, i.bytes)) = some (some (.int .i64 0), 1, 8) := by kernel_rfl
theorem ba_ext {a b : ByteArray} (h : a.toList = b.toList) : a = b := by
 rw [ByteArray.toList_eq, ByteArray.toList_eq] at h
 exact ByteArray.ext (Array.toList_inj.1 h)
theorem Dt.sete {w W : World} {a0 a1 nm : ByteArray} {num : Int} {cv kv : Value} (h : Dt w W a0 a1 nm num cv kv) : Dt w (W.setCell ⟨w.heap.size + 1 + 1, 0, none⟩ (.int .i64 0)) a0 a1 nm num cv kv :=
 ⟨(heap_setCell_other _ ⟨w.heap.size + 1 + 1, 0, none⟩ w.heap.size (.int .i64 0) (by show w.heap.size ≠ w.heap.size + 1 + 1; omega)).trans h.p, (heap_setCell_other _ ⟨w.heap.size + 1 + 1, 0, none⟩ (w.heap.size + 1) (.int .i64 0) (by show w.heap.size + 1 ≠ w.heap.size + 1 + 1; omega)).trans h.t, qu h.e 0 (.int .i64 0) rfl, qf h.b (by omega)⟩
theorem xx {w W : World} {a0 a1 nm : ByteArray} {num : Int} {cv kv : Value} (h : Dt w W a0 a1 nm num cv kv) (nm2 : ByteArray) :
 Dt w ((W.setCell ⟨w.heap.size + 1, 0, none⟩ (.string nm2)).alloc (.cells #[.string a1, .int .i64 0] 45)) a0 a1 nm2 num cv kv ∧ Cu ((W.setCell ⟨w.heap.size + 1, 0, none⟩ (.string nm2)).alloc (.cells #[.string a1, .int .i64 0] 45)) W.heap.size a1 0 ∧ w.heap.size ≤ W.heap.size := by
 refine ⟨(h.set 0 (.string nm2) rfl).below (qa (Below.refl _ _) _), ?_, by have := h.size; omega⟩;have := heap_alloc_new (W.setCell ⟨w.heap.size + 1, 0, none⟩ (.string nm2)) (.cells #[.string a1, .int .i64 0] 45);rw [show (W.setCell ⟨w.heap.size + 1, 0, none⟩ (.string nm2)).heap.size = W.heap.size by simp [World.setCell]] at this
 exact this
def addL {α : Type} (done : List α) (r : Option (List α × Int)) : Option (List α × Int) := match r with
 | none => none
 | some (l, q) => some (done ++ l, q)
theorem addL_nil {α : Type} (r : Option (List α × Int)) : addL [] r = r := by
 rcases r with _ | ⟨l, q⟩ <;> rfl
theorem vk {α : Type} {d : Kd α} {t : TypeId} {w w1 : World} {base cb : Nat} {q : Int} {v : Value} {xs : List α} {s : ByteArray} (hd : ∀ x ∈ t :: d.E, x ≠ 45) (h : Kd.R d t w base (fun _ => True) v xs) (hR : Cu w cb s q) (hg : w.grownBy w1 (some cb)) : Kd.R d t w1 base (fun _ => True) v xs :=
 Kd.R_mono (Kd.R_grown (Kd.R_types h hR hd) hg (fun k hk e => hk.2 (by injection e))) (fun _ _ => trivial)
theorem Dt.grownK {α : Type} {d : Kd α} {t : TypeId} {xs : List α} {v : Value} {w W W1 : World} {a0 a1 nm : ByteArray} {num : Int} {cv kv : Value} (h : Dt w W a0 a1 nm num cv kv) (hk : Kd.R d t W w.heap.size (fun _ => True) v xs) (hp : ∀ x ∈ t :: d.E, x ≠ 23 ∧ x ≠ 27 ∧ x ≠ 28) (hg : W.grownBy W1 v.ownBlock) : Dt w W1 a0 a1 nm num cv kv :=
 ⟨za h.p hg (Kd.R_ne hk h.p (hp t (by simp)).1), za h.t hg (Kd.R_ne hk h.t (hp t (by simp)).2.1), za h.e hg (Kd.R_ne hk h.e (hp t (by simp)).2.2), xK h.b _ (by have := h.size; omega) hg (fun k hk2 => by obtain ⟨inner, ho⟩ := Kd.R_own hk; exact xi ho k hk2)⟩
theorem numD_le {k : Nat} {s : ByteArray} {p most v q : Int} (h : numD k s p most = some (some (v, q))) : v ≤ most := by
 unfold numD at h;obtain ⟨⟨a, b, c⟩, _, h2⟩ := Option.bind_eq_some_iff.1 h
 simp only at h2
 by_cases hc : c = 0
 · rw [if_pos hc] at h2
   by_cases hm : most < a
   · rw [if_pos hm] at h2
     simp at h2
   · rw [if_neg hm] at h2
     simp only [Option.some.injEq, Prod.mk.injEq] at h2
     omega
 · rw [if_neg hc] at h2
   simp at h2
set_option maxHeartbeats 4000000 in
set_option maxRecDepth 100000 in
theorem dec_calls (k : Nat) (a0 a1 : ByteArray) (r : TabR) (w : World) (h : zq.f k a0 a1 = some r) (hG : GL w) :
 Calls Tryz.prog 4 #[.agg #[.string a0, .string a1]] w fun e w' => decOut w r e w' := by
 unfold zq.f at h
 by_cases hs : a1.size ≤ 1000000000
 case neg => rw [if_neg hs] at h; cases h
 rw [if_pos hs] at h;obtain ⟨⟨K, ke⟩, hK, h2⟩ := Option.bind_eq_some_iff.1 h
 simp only at h2
 have HK := Aside0.mk hK;have HG := Aside0.mk hG;clear h hK hG
 have hmf : ∀ (fn : Fn) (first cap : Array Value) (w : World), (Instr.makeFunc fn first cap).run Tryz.prog w = .ok (.func fn first cap) w := fun _ _ _ _ => rfl
 have HN := Aside0.mk (dt_new w a0 a1)
 by_cases he : ke = 0
 case neg =>
  rw [if_neg he] at h2;obtain rfl := Option.some.inj h2
  go_enter_defers Tryz.func4, Tryz.ntmps4
  go_wp2_with (first
   | (go_at_call 9; go_must (refine (zF.calls a0 K ke _ HK.out).mono ?_; rintro e w1 ⟨v0, rfl, hk, hb⟩; have HD1 := Aside0.mk (HN.out.below hb); clear hk hb))
   | (go_at_call 10; go_must (refine (must_bad ke _ he).mono ?_; rintro e w2 ⟨hb2, b, rfl⟩)))
  exact xm w w2 a0 a1 _ _ _ _ _ _ b _ (HD1.out.below hb2)
 rw [if_pos he] at h2;subst he
 by_cases hl : K.length = 2
 case neg =>
  rw [if_neg hl] at h2;obtain rfl := Option.some.inj h2
  have d1 : ((K.length : Int) != 2) = true := by simp; omega
  go_enter_defers Tryz.func4, Tryz.ntmps4
  go_wp2_with (first
   | (go_at_call 9; go_must (refine (zF.calls a0 K 0 _ HK.out).mono ?_; rintro e w1 ⟨v0, rfl, hk, hb⟩; have HD1 := Aside0.mk (HN.out.below hb); obtain ⟨A, cc, rfl⟩ := Kd.R_slice hk; clear hk hb))
   | (go_at_call 10; go_must (refine (xw _).mono ?_; rintro e w2 ⟨rfl, rfl⟩))
   | (go_at_call 11; go_must (refine (xD 169 _).mono ?_; rintro e w3 ⟨hb2, b, rfl⟩)))
  exact xm w w3 a0 a1 _ _ _ _ _ _ b _ (HD1.out.below hb2)
 rw [if_pos hl] at h2
 have d1 : ((K.length : Int) != 2) = false := by simp; omega
 have hl2 : (1 : Int) < K.length := by omega
 unfold decNum at h2;obtain ⟨R1, hR1, h3⟩ := Option.bind_eq_some_iff.1 h2;clear h2;have H1 := Aside0.mk hR1;clear hR1;obtain ⟨nm, hnm⟩ : ∃ nm, (qJ K 1).f2 = nm := ⟨_, rfl⟩;rw [hnm] at h3;have HNM := Aside0.mk hnm;clear hnm
 rcases R1 with _ | ⟨num, q1⟩
 · simp only at h3
   obtain rfl := Option.some.inj h3
   go_enter_defers Tryz.func4, Tryz.ntmps4
   go_wp2_with (first
    | (go_at_call 9; go_must (refine (zF.calls a0 K 0 _ HK.out).mono ?_; rintro e w1 ⟨v0, rfl, hk, hb⟩; have HD1 := Aside0.mk (HN.out.below hb); obtain ⟨A, cc, rfl⟩ := Kd.R_slice hk; obtain ⟨ad, ea, _, _, hcell⟩ := vj (Kd.R_reads' hk).2.2 1 (by decide) hl2; cases ea; simp only [Int.reduceToNat, Nat.one_mul] at hcell; rw [HNM.out] at hcell; replace hcell : w1.cell? ⟨ad.block, ad.off + 3 + 2, none⟩ = some (.string nm) := hcell; obtain ⟨p0, p1, t0, t1, t2, t3, e0, f0, f1, f2, f3, f4⟩ := HD1.out.facts; clear hk hb))
    | (go_at_call 10; go_must (refine (xw _).mono ?_; rintro e w2 ⟨rfl, rfl⟩))
    | (go_at_call 12; go_must (refine (zM k _ a1 0 _ _ _ (xx HD1.out nm).2.1 H1.out).mono ?_; rintro e w3 ⟨hg, b, rfl⟩; have HD3 := Aside0.mk ((xx HD1.out nm).1.grown (xx HD1.out nm).2.1 (xx HD1.out nm).2.2 hg); clear hg)))
   exact xm w w3 a0 a1 _ _ _ _ _ _ b _ HD3.out
 simp only at h3
 unfold decCols at h3;obtain ⟨R2, hR2, h4⟩ := Option.bind_eq_some_iff.1 h3;clear h3;have H2 := Aside0.mk hR2;clear hR2
 rcases R2 with _ | ⟨nc, q2⟩
 · simp only at h4
   obtain rfl := Option.some.inj h4
   go_enter_defers Tryz.func4, Tryz.ntmps4
   go_wp2_with (first
    | (go_at_call 9; go_must (refine (zF.calls a0 K 0 _ HK.out).mono ?_; rintro e w1 ⟨v0, rfl, hk, hb⟩; have HD1 := Aside0.mk (HN.out.below hb); obtain ⟨A, cc, rfl⟩ := Kd.R_slice hk; obtain ⟨ad, ea, _, _, hcell⟩ := vj (Kd.R_reads' hk).2.2 1 (by decide) hl2; cases ea; simp only [Int.reduceToNat, Nat.one_mul] at hcell; rw [HNM.out] at hcell; replace hcell : w1.cell? ⟨ad.block, ad.off + 3 + 2, none⟩ = some (.string nm) := hcell; obtain ⟨p0, p1, t0, t1, t2, t3, e0, f0, f1, f2, f3, f4⟩ := HD1.out.facts; clear hk hb))
    | (go_at_call 10; go_must (refine (xw _).mono ?_; rintro e w2 ⟨rfl, rfl⟩))
    | (have hguard := H1; clear hguard; go_at_call 12; go_must (refine (zM k _ a1 0 _ _ _ (xx HD1.out nm).2.1 H1.out).mono ?_; rintro e w3 ⟨hg, rfl, hc⟩; have HCB := Aside0.mk (xx HD1.out nm).2.2; have HD3 := Aside0.mk ((xx HD1.out nm).1.grown (xx HD1.out nm).2.1 (xx HD1.out nm).2.2 hg); have HC3 := Aside0.mk hc; clear hcell p0 p1 t0 t1 t2 t3 e0 f0 f1 f2 f3 f4; obtain ⟨p0, p1, t0, t1, t2, t3, e0, f0, f1, f2, f3, f4⟩ := HD3.out.facts; clear hg hc H1))
    | (go_at_call 12; go_must (refine (zM k _ a1 q1 _ _ _ (HC3.out.set HD3.out 1 _) H2.out).mono ?_; rintro e w4 ⟨hg, b, rfl⟩; have HD4 := Aside0.mk ((HD3.out.set 1 (.int .i64 (wrap64 num)) rfl).grown (HC3.out.set HD3.out 1 _) HCB.out hg); clear hg)))
   exact xm w w4 a0 a1 _ _ _ _ _ _ b _ HD4.out
 simp only at h4
 obtain ⟨R3, hR3, h5⟩ := Option.bind_eq_some_iff.1 h4;clear h4;have H3 := Aside0.mk hR3;have H5 := Aside0.mk h5;clear hR3 h5;obtain ⟨n, hn⟩ : ∃ n, nc.toNat = n := ⟨_, rfl⟩;rw [hn] at H3;have HNN := Aside0.mk hn;clear hn
 go_enter_defers Tryz.func4, Tryz.ntmps4
 go_wp2_with (first
  | (go_at_call 9; go_must (refine (zF.calls a0 K 0 _ HK.out).mono ?_; rintro e w1 ⟨v0, rfl, hk, hb⟩; have HD1 := Aside0.mk (HN.out.below hb); obtain ⟨A, cc, rfl⟩ := Kd.R_slice hk; obtain ⟨ad, ea, _, _, hcell⟩ := vj (Kd.R_reads' hk).2.2 1 (by decide) hl2; cases ea; simp only [Int.reduceToNat, Nat.one_mul] at hcell; rw [HNM.out] at hcell; replace hcell : w1.cell? ⟨ad.block, ad.off + 3 + 2, none⟩ = some (.string nm) := hcell; obtain ⟨p0, p1, t0, t1, t2, t3, e0, f0, f1, f2, f3, f4⟩ := HD1.out.facts; clear hk hb))
  | (go_at_call 10; go_must (refine (xw _).mono ?_; rintro e w2 ⟨rfl, rfl⟩))
  | (have hguard := H1; clear hguard; go_at_call 12; go_must (refine (zM k _ a1 0 _ _ _ (xx HD1.out nm).2.1 H1.out).mono ?_; rintro e w3 ⟨hg, rfl, hc⟩; have HCB := Aside0.mk (xx HD1.out nm).2.2; have HD3 := Aside0.mk ((xx HD1.out nm).1.grown (xx HD1.out nm).2.1 (xx HD1.out nm).2.2 hg); have HC3 := Aside0.mk hc; clear hcell p0 p1 t0 t1 t2 t3 e0 f0 f1 f2 f3 f4; obtain ⟨p0, p1, t0, t1, t2, t3, e0, f0, f1, f2, f3, f4⟩ := HD3.out.facts; clear hg hc H1))
  | (go_at_call 12; go_must (refine (zM k _ a1 q1 _ _ _ (HC3.out.set HD3.out 1 _) H2.out).mono ?_; rintro e w4 ⟨hg, rfl, hc⟩; have HD4 := Aside0.mk ((HD3.out.set 1 (.int .i64 (wrap64 num)) rfl).grown (HC3.out.set HD3.out 1 _) HCB.out hg); have HC4 := Aside0.mk hc; clear hg hc p0 p1 t0 t1 t2 t3 e0 f0 f1 f2 f3 f4)))
 have hn16 : n ≤ 16 := by have := numD_le H2.out; have := HNN.out; omega
 clear HD1 HD3 HC3 H2;generalize w2.heap.size = cb at *
 go_loopw [36] (fun v36 wr => ∃ (j : Nat) (p : Int) (done : List S49) (cv : Value) (r3 : Option (List S49 × Int)), j ≤ n ∧ v36 = .int .u64 (j : Int) ∧ Aside0 (done.length = j) ∧ Aside0 (colsD k a1 (n - j) p = some r3) ∧ Aside0 (addL done r3 = R3) ∧ Aside0 (Dt w wr a0 a1 nm (wrap64 num) cv (.slice none 0 0)) ∧ Aside0 (Kd.R k49 49 wr w.heap.size (fun _ => True) cv done) ∧ Aside0 (Cu wr cb a1 p)) (fun v36 _ => n - (intOf v36).toNat)
 case atStart => exact ⟨0, q2, [], .slice none 0 0, R3, Nat.zero_le _, rfl, ⟨rfl⟩, H3, ⟨addL_nil _⟩, HD4, ⟨Kd.R_nil _ _ _ _ _⟩, HC4⟩
 case round =>
  clear HD4 HC4 H3;obtain ⟨j, p, done, cv, r3, hj, rfl, HDN, HCO, HAD, HD, HKR, HC⟩ := hrel;obtain ⟨p0, p1, t0, t1, t2, t3, e0, f0, f1, f2, f3, f4⟩ := HD.out.facts
  by_cases hlt : j < n
  · have g1 : decide ((j : Int) < nc) = true := decide_eq_true (by have := HNN.out; omega)
    have hco := HCO.out;rw [show n - j = (n - (j + 1)) + 1 by omega, colsD] at hco;obtain ⟨rc, h1, h2⟩ := Option.bind_eq_some_iff.1 hco;clear hco HCO;have HCL := Aside0.mk h1;have hsz := HD.out.size;clear h1
    rcases rc with _ | ⟨c, q⟩
    · simp only [Option.some.injEq] at h2
      subst h2;have hR3 := HAD.out;simp only [addL] at hR3;subst hR3;have h5 := H5.out;simp only [Option.some.injEq] at h5;subst h5
      go_wp2_with fail
      first | go_region_dies | fail
      all_goals (refine (column_calls k cb a1 p _ none (qg HC.out) hs HCL.out).mono ?_; rintro e w5 ⟨hg, b, rfl⟩)
      all_goals exact xm w w5 a0 a1 _ _ _ _ _ _ b _ ((HD.out.below (zP (Below.refl _ _))).grown (qg HC.out) HCB.out hg)
    · obtain ⟨r4, hr4, h4⟩ := Option.bind_eq_some_iff.1 h2
      have HCO4 := Aside0.mk hr4
      have HAD4 : Aside0 (addL (done ++ [c]) r4 = R3) := by
       constructor
       rw [← HAD.out]
       rcases r4 with _ | ⟨l, q2⟩
       · simp only [Option.some.injEq] at h4
         subst h4
         rfl
       · simp only [Option.some.injEq] at h4
         subst h4
         simp [addL]
      have HDN4 : Aside0 ((done ++ [c]).length = j + 1) := ⟨by rw [List.length_append, HDN.out]; rfl⟩
      have hdl : done.length ≤ 16 := by rw [HDN.out]; omega
      clear h2 hr4 h4 HAD
      go_wp2_with fail
      refine wp_mono ?_ noPanic_le
      go_region_law (first
       | (go_simp; go_at_call 13; go_must (refine (column_calls k cb a1 p _ (some (c, q)) (qg HC.out) hs HCL.out).mono ?_; rintro e w5 ⟨hg, rfl, hc5⟩; rw [show cdV c = .agg #[.string c.f0, .int .i64 c.f1, .bool c.f2] from rfl]; have HD5 := Aside0.mk ((HD.out.below (zP (Below.refl _ _))).grown (qg HC.out) HCB.out hg); have HC5 := Aside0.mk hc5; have HK5 := Aside0.mk (vk (by decide) (Kd.R_below HKR.out (zP (Below.refl _ _))) (qg HC.out) hg); have hsz5 : w.heap.size ≤ w5.heap.size := (by have := HD5.out.size; omega); clear hg hc5; have t2a := ((HD5.out.below (qa (Below.refl _ _) (.cells #[.string c.f0, .int .i64 c.f1, .bool c.f2] 49))).facts).t2; obtain ⟨p0, p1, t0, t1, t2, t3, e0, f0, f1, f2, f3, f4⟩ := HD5.out.facts))
       | (refine step_kd k49 (w0 := w5) w.heap.size rfl (.tmp 39) (.tmp 42) 24 49 (.agg #[.string ⟨#[]⟩, .int .i64 0, .bool false]) 32 rfl Tryz.underlying24 infoCol rfl (by decide) (by omega) cv done c [.string c.f0, .int .i64 c.f1, .bool c.f2] (fun _ => True) (fun _ => False) rfl rfl ⟨_, _, rfl, rfl, ⟨_, _, rfl, rfl, rfl⟩⟩ (fun _ hk => hk.elim) (fun _ _ => trivial) HK5.out (Below.refl _ _) hsz5 (by omega) ?_; go_must (intro v1 w6 ho hb hg hat; obtain ⟨A1, cc1, rfl⟩ := Kd.R_slice ho; have HK6 := Aside0.mk ho; have HC6 : Aside0 (Cu w6 cb a1 q) := ⟨za HC5.out hg (Kd.R_ne HK5.out HC5.out (by decide))⟩; have HD6 := Aside0.mk (HD5.out.grownK HK5.out (by decide) hg); clear ho hb hg hat; clear p0 p1 t0 t1 t2 t3 e0 f0 f1 f2 f3 f4; obtain ⟨p0, p1, t0, t1, t2, t3, e0, f0, f1, f2, f3, f4⟩ := HD6.out.facts)))
      all_goals simp only [noPanic]
      all_goals go_wp2
      all_goals go_roundw
      all_goals first
       | (have HK7 := HK6.out; rw [List.length_append, List.length_singleton] at HK7; have HS7 := HD6.out.set (cv2 := .slice A1 (done.length + 1) cc1) 2 (.slice A1 (done.length + 1) cc1) rfl; have HR7 := Kd.R_set HK7 HD6.out.t (by intro q hq; have hq : q ∈ [49] := hq; rw [List.mem_singleton.1 hq]; decide) 2 (.slice A1 (done.length + 1) cc1); have HC7 := HC6.out.set HD6.out 2 (.slice A1 (done.length + 1) cc1); refine ⟨j + 1, q, done ++ [c], .slice A1 (done.length + 1) cc1, r4, by omega, ?_, HDN4, HCO4, HAD4, ⟨HS7⟩, ⟨HR7⟩, ⟨HC7⟩⟩; go_num)
       | (simp [intOf]; omega)
  · have g1 : decide ((j : Int) < nc) = false := decide_eq_false (by have := HNN.out; omega)
    obtain rfl : j = n := by omega
    have hco := HCO.out;rw [Nat.sub_self, colsD] at hco;simp only [Option.some.injEq] at hco;subst hco;have hR3 := HAD.out;simp only [addL, List.append_nil] at hR3;subst hR3;have h5 := H5.out
    simp only at h5
    unfold decKeys at h5;obtain ⟨R4, hR4, h6⟩ := Option.bind_eq_some_iff.1 h5;have HNK := Aside0.mk hR4;have hsz := HD.out.size;clear h5 hR4 HAD HCO H5
    rcases R4 with _ | ⟨nk, q4⟩
    · simp only [Option.some.injEq] at h6
      subst h6
      go_wp2_with (first
       | (go_at_call 12; go_must (refine (zM k cb a1 p _ _ _ HC.out HNK.out).mono ?_; rintro e w5 ⟨hg, b, rfl⟩; have HD5 := Aside0.mk (HD.out.grown HC.out HCB.out hg); clear hg)))
      exact xm w w5 a0 a1 _ _ _ _ _ _ b _ HD5.out
    · simp only at h6
      obtain ⟨R5, hR5, h7⟩ := Option.bind_eq_some_iff.1 h6;have HKS := Aside0.mk hR5;have H7 := Aside0.mk h7;clear h6 hR5 h7;obtain ⟨m, hm⟩ : ∃ m, nk.toNat = m := ⟨_, rfl⟩;rw [hm] at HKS;have HMM := Aside0.mk hm
      have hm8 : m ≤ 8 := by have := numD_le HNK.out; omega
      clear hm
      go_wp2_with (first
       | (go_at_call 12; go_must (refine (zM k cb a1 p _ _ _ HC.out HNK.out).mono ?_; rintro e w5 ⟨hg, rfl, hc5⟩; have HD5 := Aside0.mk (HD.out.grown HC.out HCB.out hg); have HK5 := Aside0.mk (vk (by decide) HKR.out HC.out hg); have HC5 := Aside0.mk hc5; clear hg hc5 p0 p1 t0 t1 t2 t3 e0 f0 f1 f2 f3 f4)))
      clear HNK g1 HKR HD HC
      go_loopw [48] (fun v48 wr => ∃ (j2 : Nat) (p2 : Int) (dk : List Int) (kv : Value) (r3 : Option (List Int × Int)), j2 ≤ m ∧ v48 = .int .u64 (j2 : Int) ∧ Aside0 (dk.length = j2) ∧ Aside0 (keysD k a1 (m - j2) p2 = some r3) ∧ Aside0 (addL dk r3 = R5) ∧ Aside0 (Dt w wr a0 a1 nm (wrap64 num) cv kv) ∧ Aside0 (Kd.R k49 49 wr w.heap.size (fun _ => True) cv done) ∧ Aside0 (Kd.R (Kd.int .i64) 3 wr w.heap.size (fun _ => True) kv dk) ∧ Aside0 (Cu wr cb a1 p2)) (fun v48 _ => m - (intOf v48).toNat)
      case atStart => exact ⟨0, q4, [], .slice none 0 0, R5, Nat.zero_le _, rfl, ⟨rfl⟩, HKS, ⟨addL_nil _⟩, HD5, HK5, ⟨Kd.R_nil _ _ _ _ _⟩, HC5⟩
      case round =>
       clear HD5 HC5 HKS HK5;obtain ⟨j2, p2, dk, kv, r3, hj2, rfl, HDN2, HCO, HAD, HD, HKC, HKR, HC⟩ := hrel;obtain ⟨p0, p1, t0, t1, t2, t3, e0, f0, f1, f2, f3, f4⟩ := HD.out.facts;have hsz := HD.out.size
       by_cases hlt2 : j2 < m
       · have g1 : decide ((j2 : Int) < nk) = true := decide_eq_true (by have := HMM.out; omega)
         have hco := HCO.out;rw [show m - j2 = (m - (j2 + 1)) + 1 by omega, keysD] at hco;obtain ⟨rc, h1, h2⟩ := Option.bind_eq_some_iff.1 hco;clear hco HCO;have HCL := Aside0.mk h1;clear h1
         rcases rc with _ | ⟨c, q⟩
         · simp only [Option.some.injEq] at h2
           subst h2;have hR3 := HAD.out;simp only [addL] at hR3;subst hR3;have h5 := H7.out;simp only [Option.some.injEq] at h5;subst h5
           go_wp2_with fail
           first | go_region_dies | fail
           all_goals (refine (zM k cb a1 p2 _ _ none (qg HC.out) HCL.out).mono ?_; rintro e w5 ⟨hg, b, rfl⟩)
           all_goals exact xm w w5 a0 a1 _ _ _ _ _ _ b _ ((HD.out.below (zP (Below.refl _ _))).grown (qg HC.out) HCB.out hg)
         · obtain ⟨r4, hr4, h4⟩ := Option.bind_eq_some_iff.1 h2
           have HCO4 := Aside0.mk hr4
           have HAD4 : Aside0 (addL (dk ++ [wrap64 c]) r4 = R5) := by
            constructor
            rw [← HAD.out]
            rcases r4 with _ | ⟨l, q2⟩
            · simp only [Option.some.injEq] at h4
              subst h4
              rfl
            · simp only [Option.some.injEq] at h4
              subst h4
              simp [addL]
           have HDN4 : Aside0 ((dk ++ [wrap64 c]).length = j2 + 1) := ⟨by rw [List.length_append, HDN2.out]; rfl⟩
           have hdl : dk.length ≤ 16 := by rw [HDN2.out]; omega
           clear h2 hr4 h4 HAD
           go_wp2_with fail
           refine wp_mono ?_ noPanic_le
           go_region_law (first
            | (go_simp; go_at_call 12; go_must (refine (zM k cb a1 p2 _ _ (some (c, q)) (qg HC.out) HCL.out).mono ?_; rintro e w5 ⟨hg, rfl, hc5⟩; have HD5 := Aside0.mk ((HD.out.below (zP (Below.refl _ _))).grown (qg HC.out) HCB.out hg); have HC5 := Aside0.mk hc5; have HKC5 := Aside0.mk (vk (by decide) (Kd.R_below HKC.out (zP (Below.refl _ _))) (qg HC.out) hg); have HK5 := Aside0.mk (vk (by decide) (Kd.R_below HKR.out (zP (Below.refl _ _))) (qg HC.out) hg); have hsz5 : w.heap.size ≤ w5.heap.size := (by have := HD5.out.size; omega); clear hg hc5; have t3a := ((HD5.out.below (qa (Below.refl _ _) (.cells #[.int .i64 (IntKind.i64.wrap c)] 3))).facts).t3; obtain ⟨p0, p1, t0, t1, t2, t3, e0, f0, f1, f2, f3, f4⟩ := HD5.out.facts))
            | (refine step_kd (Kd.int .i64) (w0 := w5) w.heap.size rfl (.tmp 51) (.tmp 55) 25 3 (.int .i64 0) 8 rfl Tryz.underlying25 infoInt rfl (by decide) (by decide) kv dk (IntKind.i64.wrap c) [.int .i64 (IntKind.i64.wrap c)] (fun _ => True) (fun _ => False) rfl rfl rfl (fun _ hk => hk.elim) (fun _ _ => trivial) HK5.out (Below.refl _ _) hsz5 (by omega) ?_; go_must (intro v1 w6 ho hb hg hat; try simp only [qS] at ho; obtain ⟨A1, cc1, rfl⟩ := Kd.R_slice ho; have HK6 := Aside0.mk ho; have HC6 : Aside0 (Cu w6 cb a1 q) := ⟨za HC5.out hg (Kd.R_ne HK5.out HC5.out (by decide))⟩; have HKC6 := Aside0.mk (Kd.R_mono (Kd.R_grown (Kd.R_apart' HKC5.out (Kd.R_typed HK5.out) (by decide)) hg (fun k hk => hk.2)) (fun _ _ => trivial)); have HD6 := Aside0.mk (HD5.out.grownK HK5.out (by decide) hg); clear ho hb hg hat; clear p0 p1 t0 t1 t2 t3 e0 f0 f1 f2 f3 f4; obtain ⟨p0, p1, t0, t1, t2, t3, e0, f0, f1, f2, f3, f4⟩ := HD6.out.facts)))
           all_goals simp only [noPanic]
           all_goals go_wp2
           all_goals go_roundw
           all_goals first
            | (have HK7 := HK6.out; rw [List.length_append, List.length_singleton] at HK7; have HS7 := HD6.out.set (kv2 := .slice A1 (dk.length + 1) cc1) 3 (.slice A1 (dk.length + 1) cc1) rfl; have HR7 := Kd.R_set HK7 HD6.out.t (by intro q hq; have hq : q ∈ [3] := hq; rw [List.mem_singleton.1 hq]; decide) 3 (.slice A1 (dk.length + 1) cc1); have HKC7 := Kd.R_set HKC6.out HD6.out.t (by intro q hq; have hq : q ∈ [49] := hq; rw [List.mem_singleton.1 hq]; decide) 3 (.slice A1 (dk.length + 1) cc1); have HC7 := HC6.out.set HD6.out 3 (.slice A1 (dk.length + 1) cc1); refine ⟨j2 + 1, q, dk ++ [wrap64 c], .slice A1 (dk.length + 1) cc1, r4, by omega, ?_, HDN4, HCO4, HAD4, ⟨HS7⟩, ⟨HKC7⟩, ⟨HR7⟩, ⟨HC7⟩⟩; go_num)
            | (simp [intOf]; omega)
       · have g1 : decide ((j2 : Int) < nk) = false := decide_eq_false (by have := HMM.out; omega)
         obtain rfl : j2 = m := by omega
         have hco := HCO.out;rw [Nat.sub_self, keysD] at hco;simp only [Option.some.injEq] at hco;subst hco;have hR3 := HAD.out;simp only [addL, List.append_nil] at hR3;subst hR3;have h5 := H7.out
         simp only at h5
         unfold decEnd at h5;obtain ⟨⟨E1, E2, ec⟩, hE, h8⟩ := Option.bind_eq_some_iff.1 h5
         simp only at h8
         have HE := Aside0.mk hE;clear h5 hE HAD HCO H7;obtain ⟨A2, cc2, rfl⟩ := Kd.R_slice HKC.out;obtain ⟨A3, cc3, rfl⟩ := Kd.R_slice HKR.out
         by_cases hec : ec = 0
         case neg =>
          rw [if_neg hec] at h8;obtain rfl := Option.some.inj h8
          go_wp2_with (first
           | (go_at_call 14; go_must (refine (qx.calls k nm (wrap64 num) A2 cc2 done A3 cc3 dk E1 E2 ec _ (Kd.R_reads' HKC.out).2.2 (Kd.R_reads' HKC.out).2.1 (Kd.R_reads' HKR.out).2.2 (Kd.R_reads' HKR.out).2.1 HE.out (HG.out.below HD.out.b)).mono ?_; rintro e w5 ⟨rfl, hb⟩; have HD5 := Aside0.mk (HD.out.below hb); clear hb))
           | (go_at_call 10; go_must (refine (must_bad ec _ hec).mono ?_; rintro e w6 ⟨hb2, b, rfl⟩)))
          exact xm w w6 a0 a1 _ _ _ _ _ _ b _ ((HD5.out.below (qa (Below.refl _ _) _)).below hb2)
         rw [if_pos hec] at h8;subst hec
         by_cases heq : E1 = a0 ∧ E2 = a1
         case neg =>
          rw [if_neg heq] at h8;obtain rfl := Option.some.inj h8
          by_cases e1 : E1 = a0
          · have n2 : ¬ E2.toList = a1.toList := fun h => heq ⟨e1, ba_ext h⟩
            subst e1;clear heq
            go_wp2_with (first
             | (go_at_call 14; go_must (refine (qx.calls k nm (wrap64 num) A2 cc2 done A3 cc3 dk E1 E2 0 _ (Kd.R_reads' HKC.out).2.2 (Kd.R_reads' HKC.out).2.1 (Kd.R_reads' HKR.out).2.2 (Kd.R_reads' HKR.out).2.1 HE.out (HG.out.below HD.out.b)).mono ?_; rintro e w5 ⟨rfl, hb⟩; have HD5 := Aside0.mk (HD.out.below hb); clear hb p0 p1 t0 t1 t2 t3 e0 f0 f1 f2 f3 f4; have HD6 := Aside0.mk (HD5.out.below (qa (Below.refl _ _) (.cells #[.string E1, .string E2] 23))); obtain ⟨p0, p1, t0, t1, t2, t3, e0, f0, f1, f2, f3, f4⟩ := HD6.out.facts; have hsz5 := HD5.out.size; have hn0 : ¬ w5.heap.size = w.heap.size := (by omega); have hn1 : ¬ w.heap.size = w5.heap.size := (by omega)))
             | (go_at_call 10; go_must (refine (xw _).mono ?_; rintro e w6 ⟨rfl, rfl⟩))
             | (go_at_call 11; go_must (refine (xD 169 _).mono ?_; rintro e w7 ⟨hb2, b, rfl⟩)))
            exact xm w w7 _ a1 _ _ _ _ _ _ b _ (HD6.out.below hb2)
          · have n1 : ¬ E1.toList = a0.toList := fun h => e1 (ba_ext h)
            clear heq
            go_wp2_with (first
             | (go_at_call 14; go_must (refine (qx.calls k nm (wrap64 num) A2 cc2 done A3 cc3 dk E1 E2 0 _ (Kd.R_reads' HKC.out).2.2 (Kd.R_reads' HKC.out).2.1 (Kd.R_reads' HKR.out).2.2 (Kd.R_reads' HKR.out).2.1 HE.out (HG.out.below HD.out.b)).mono ?_; rintro e w5 ⟨rfl, hb⟩; have HD5 := Aside0.mk (HD.out.below hb); clear hb p0 p1 t0 t1 t2 t3 e0 f0 f1 f2 f3 f4; have HD6 := Aside0.mk (HD5.out.below (qa (Below.refl _ _) (.cells #[.string E1, .string E2] 23))); obtain ⟨p0, p1, t0, t1, t2, t3, e0, f0, f1, f2, f3, f4⟩ := HD6.out.facts; have hsz5 := HD5.out.size; have hn0 : ¬ w5.heap.size = w.heap.size := (by omega); have hn1 : ¬ w.heap.size = w5.heap.size := (by omega)))
             | (go_at_call 10; go_must (refine (xw _).mono ?_; rintro e w6 ⟨rfl, rfl⟩))
             | (go_at_call 11; go_must (refine (xD 169 _).mono ?_; rintro e w7 ⟨hb2, b, rfl⟩)))
            all_goals exact xm w w7 a0 a1 _ _ _ _ _ _ b _ (HD6.out.below hb2)
         rw [if_pos heq] at h8;obtain rfl := Option.some.inj h8;obtain ⟨rfl, rfl⟩ := heq
         go_wp2_with (first
          | (go_at_call 14; go_must (refine (qx.calls k nm (wrap64 num) A2 cc2 done A3 cc3 dk E1 E2 0 _ (Kd.R_reads' HKC.out).2.2 (Kd.R_reads' HKC.out).2.1 (Kd.R_reads' HKR.out).2.2 (Kd.R_reads' HKR.out).2.1 HE.out (HG.out.below HD.out.b)).mono ?_; rintro e w5 ⟨rfl, hb⟩; have HD5 := Aside0.mk (HD.out.below hb); have HKC5 := Aside0.mk (Kd.R_below HKC.out hb); have HKR5 := Aside0.mk (Kd.R_below HKR.out hb); clear hb p0 p1 t0 t1 t2 t3 e0 f0 f1 f2 f3 f4; have HD6 := Aside0.mk (HD5.out.below (qa (Below.refl _ _) (.cells #[.string E1, .string E2] 23))); obtain ⟨p0, p1, t0, t1, t2, t3, e0, f0, f1, f2, f3, f4⟩ := HD6.out.facts; have hsz5 := HD5.out.size; have hn0 : ¬ w5.heap.size = w.heap.size := (by omega); have hn1 : ¬ w.heap.size = w5.heap.size := (by omega)))
          | (go_at_call 10; go_must (refine (xw _).mono ?_; rintro e w6 ⟨rfl, rfl⟩)))
         have D1 := HD6.out.set 0 (.string nm) rfl;have D2 := D1.set 1 (.int .i64 (wrap64 num)) rfl;have D3 := D2.set 2 (.slice A2 done.length cc2) rfl;have D4 := D3.set 3 (.slice A3 dk.length cc3) rfl
         have hC : ∀ q ∈ 49 :: k49.E, q ≠ 27 := by decide
         have hI : ∀ q ∈ 3 :: (Kd.int .i64).E, q ≠ 27 := by decide
         have hC2 : ∀ q ∈ 49 :: k49.E, q ≠ 28 := by decide
         have hI2 : ∀ q ∈ 3 :: (Kd.int .i64).E, q ≠ 28 := by decide
         have hb6 := qa (Below.refl w5.heap.size w5) (.cells #[.string E1, .string E2] 23);have C := Kd.R_set (Kd.R_set (Kd.R_set (Kd.R_set (Kd.R_set (Kd.R_below HKC5.out hb6) HD6.out.t hC 0 (.string nm)) D1.t hC 1 (.int .i64 (wrap64 num))) D2.t hC 2 (.slice A2 done.length cc2)) D3.t hC 3 (.slice A3 dk.length cc3)) D4.e hC2 0 (.int .i64 0);have I := Kd.R_set (Kd.R_set (Kd.R_set (Kd.R_set (Kd.R_set (Kd.R_below HKR5.out hb6) HD6.out.t hI 0 (.string nm)) D1.t hI 1 (.int .i64 (wrap64 num))) D2.t hI 2 (.slice A2 done.length cc2)) D3.t hI 3 (.slice A3 dk.length cc3)) D4.e hI2 0 (.int .i64 0)
         exact dec_ends w _ _ _ nm _ _ _ _ _ done dk _ D4.sete C I
theorem zq.calls (k : Nat) (a0_0 : ByteArray) (a0_1 : ByteArray) (r1 : ByteArray) (r2 : Int) (r3 : List S49) (r4 : List Int) (r5 : Int) (w : World) (h : zq.f k a0_0 a0_1 = some (r1, r2, r3, r4, r5)) (hG : GL w) :
 Calls Tryz.prog 4 #[.agg #[.string a0_0, .string a0_1]] w fun e w' => ∃ v2_ v3_ : Value, e = .returned (.tuple #[.agg #[.string r1, .int .i64 r2, v2_, v3_], .int .i64 r5]) ∧ Kd.R k49 49 w' w.heap.size (fun _ => True) v2_ r3 ∧ Kd.R (Kd.int .i64) 3 w' w.heap.size (fun _ => True) v3_ r4 ∧ Below w.heap.size w w' := dec_calls k a0_0 a0_1 (r1, r2, r3, r4, r5) w h hG
end Go.Proofs.YtggbhdcgfnjogaaGreatDoor.PPc

