import Derived.Test.YtfmgbgkcmmpcfaaGreatDoorCPTkx0
import Derived.Test.YtfmgbgkcmmpcfaaGreatDoorCPTkx2
import Derived.Test.YtfmgbgkcmmpcfaaGreatDoorCPTkx5
import Derived.Test.YtfmgbgkcmmpcfaaGreatDoorCPTkx6
import Derived.Test.YtfmgbgkcmmpcfaaGreatDoorCPTkx7
import Derived.Test.YtfmgbgkcmmpcfaaGreatDoorCPTkx8
namespace Go.Proofs.YtfmgbgkcmmpcfaaGreatDoor.PTk
open Go.RowKit Go.Proofs.YtfmgbgkcmmpcfaaGreatDoorW.PrintWords Go.Proofs.YtfmgbgkcmmpcfaaGreatDoorW.PrintLast Go.Proofs.YtfmgbgkcmmpcfaaGreatDoorW.PrintMore
attribute [local go_sem] zp zC
set_option linter.unusedVariables false
set_option linter.unusedSimpArgs false
theorem catchT_idle (p q : Addr) (w : World) :
 CallsD Tryz.prog 28 #[.pointer (some p), .pointer (some q)] .returning w fun e u' w' => e = .returned (.tuple #[]) ∧ u' = .returning ∧ w' = w := by
 refine callsD_of_wpS Tryz.func28 rfl fun c₀ cs hu => ?_
 apply wpS_seq
 apply wpS_region
 simp [wpOpsS, go_sem, recoverD, hu, Tryz.ntmps28, Exit.thenS]
 refine wpS_of_wp ?_;change Code.wp _ _ _ { tmps := #[.pointer (some p), .pointer (some q), .nilIface, .nilIface, undef, undef, undef, undef], defers := [] } _;go_wp2;refine ⟨rfl, .returning, ?_, _, results_none rfl _ _ _, rfl, rfl, rfl⟩
 cases c₀
 simp_all
def CatchOut (T : TypeId) (u : Value) (older : List PanicEntry) (g h : Nat) (code : Int) (w : World) (e : Ending) (u' : FrameMode) (w' : World) : Prop :=
 e = .returned (.tuple #[]) ∧ u' = .panicking ({ v := .iface T u, recovered := true } :: older) ∧ ∃ w1, Below w.heap.size w w1 ∧ w' = (w1.setCell ⟨g, 0, none⟩ (.int .i64 0)).setCell ⟨h, 0, none⟩ (.int .i64 code)
set_option maxHeartbeats 4000000 in
set_option maxRecDepth 100000 in
theorem catchT_any (T : TypeId) (u : Value) (older : List PanicEntry) (g h : Nat) (code : Int) (n0 q0 : Value) (w : World) (hP : w.heap[g]? = some (.cells #[n0] 46 (0, 0))) (hQ : w.heap[h]? = some (.cells #[q0] 39 (0, 0))) (hne : ¬ g = h)
 (HC : Aside0 (Calls Tryz.prog 29 #[.iface T u] w fun ev w' => ev = .returned (.int .i64 code) ∧ Below w.heap.size w w')) :
 CallsD Tryz.prog 28 #[.pointer (some ⟨g, 0, none⟩), .pointer (some ⟨h, 0, none⟩)] (.panicking ({ v := .iface T u, recovered := false } :: older)) w (CatchOut T u older g h code w) := by
 have HP := Aside0.mk hP;have HQ := Aside0.mk hQ
 have ac : ¬ h = g := fun e => hne e.symm
 clear hP hQ
 refine callsD_of_wpS Tryz.func28 rfl fun c₀ cs hu => ?_
 apply wpS_seq
 apply wpS_region
 simp [wpOpsS, go_sem, recoverD, hu, Tryz.ntmps28, Exit.thenS]
 refine wpS_of_wp ?_;change Code.wp _ _ _ { tmps := #[.pointer (some ⟨g, 0, none⟩), .pointer (some ⟨h, 0, none⟩), .iface T u, .iface T u, undef, undef, undef, undef], defers := [] } _
 go_wp2_with (first | (go_at_call 29; go_must (refine HC.out.mono ?_; rintro e w1 ⟨rfl, hb⟩; have k1 := qF HP.out hb; have k2 := qF HQ.out hb; have c0 : w1.cell? ⟨g, 0, none⟩ = some n0 := (qa k1 0).trans rfl; have f0 := qc k1 0; have c1 : w1.cell? ⟨h, 0, none⟩ = some q0 := (qa k2 0).trans rfl; have f1 := qc k2 0; have HB := Aside0.mk hb; clear k1 k2 hb)))
 refine ⟨rfl, .panicking ({ v := .iface T u, recovered := true } :: older), ?_, _, results_none rfl _ _ _, rfl, rfl, w1, HB.out, rfl⟩
 cases c₀
 simp_all
def TyOut (k code : Int) (w : World) (e : Ending) (w' : World) : Prop := e = .returned (.tuple #[.int .i64 k, .int .i64 code]) ∧ Below w.heap.size w w'
structure TyW (w W : World) (k code : Int) : Prop where
 p : W.heap[w.heap.size]? = some (.cells #[.int .i64 k] 46 (0, 0))
 q : W.heap[w.heap.size + 1]? = some (.cells #[.int .i64 code] 39 (0, 0))
 b : Below w.heap.size w W
theorem TyW.below {w W W' : World} {k code : Int} (h : TyW w W k code) (hb : Below W.heap.size W W') : TyW w W' k code := ⟨qF h.p hb, qF h.q hb, qy h.b h.b.size hb⟩
theorem tyW_new (w : World) : TyW w ((w.alloc (.cells #[.int .i64 0] 46)).alloc (.cells #[.int .i64 0] 39)) 0 0 := by
 have K0 := qL w (.cells #[.int .i64 0] 46);have K0' := qF K0 (q8 (Below.refl _ (w.alloc (.cells #[.int .i64 0] 46))) (.cells #[.int .i64 0] 39));have K1 := qL (w.alloc (.cells #[.int .i64 0] 46)) (.cells #[.int .i64 0] 39);rw [World.size_alloc] at K1
 exact ⟨K0', K1, q8 (q8 (Below.refl _ _) _) _⟩
theorem TyW.put {w W : World} {k code : Int} (h : TyW w W k code) (k' code' : Int) : TyW w ((W.setCell ⟨w.heap.size, 0, none⟩ (.int .i64 k')).setCell ⟨w.heap.size + 1, 0, none⟩ (.int .i64 code')) k' code' := by
 have h1 := qS h.p 0 (.int .i64 k') rfl;have h2 := (heap_setCell_other W ⟨w.heap.size, 0, none⟩ (w.heap.size + 1) (.int .i64 k') (by show w.heap.size + 1 ≠ w.heap.size; omega)).trans h.q;have h3 := qS h2 0 (.int .i64 code') rfl;have h4 := (heap_setCell_other (W.setCell ⟨w.heap.size, 0, none⟩ (.int .i64 k')) ⟨w.heap.size + 1, 0, none⟩ w.heap.size (.int .i64 code') (by show w.heap.size ≠ w.heap.size + 1; omega)).trans h1
 exact ⟨h4, h3, qg (qg h.b (Nat.le_refl _)) (Nat.le_succ _)⟩
theorem ty_ends (k code : Int) (w W : World) (tmps : Array Value) (h : TyW w W k code) (h4 : tmps[4]? = some (.pointer (some ⟨w.heap.size, 0, none⟩))) (h5 : tmps[5]? = some (.pointer (some ⟨w.heap.size + 1, 0, none⟩))) :
 Leaves Tryz.prog Tryz.f15 tmps (TyOut k code w) [] .returning W := by
 have c0 : W.cell? ⟨w.heap.size, 0, none⟩ = some (.int .i64 k) := (qa h.p 0).trans rfl;have c1 : W.cell? ⟨w.heap.size + 1, 0, none⟩ = some (.int .i64 code) := (qa h.q 0).trans rfl;refine ⟨.tuple #[.int .i64 k, .int .i64 code], ?_, rfl, h.b⟩
 simp [results, Tryz.results15, go_sem, h4, h5, c0, c1]
theorem ty_dies (T : TypeId) (u : Value) (older : List PanicEntry) (code k c0 : Int) (w W : World) (tmps : Array Value) (ho : older.dropWhile (!·.goexit) = []) (h : TyW w W k c0) (h4 : tmps[4]? = some (.pointer (some ⟨w.heap.size, 0, none⟩))) (h5 : tmps[5]? = some (.pointer (some ⟨w.heap.size + 1, 0, none⟩)))
 (HC : Calls Tryz.prog 29 #[.iface T u] W fun ev w' => ev = .returned (.int .i64 code) ∧ Below W.heap.size W w') :
 Leaves Tryz.prog Tryz.f15 tmps (TyOut 0 code w) [{ target := .fn (.func 28) #[.pointer (some ⟨w.heap.size, 0, none⟩), .pointer (some ⟨w.heap.size + 1, 0, none⟩)], args := #[] }] (.panicking ({ v := .iface T u, recovered := false } :: older)) W := by
 refine leaves_cons (f := 28) (args := #[.pointer (some ⟨w.heap.size, 0, none⟩), .pointer (some ⟨w.heap.size + 1, 0, none⟩)]) (by simp) (by simp [go_sem]) ?_;refine (catchT_any T u older w.heap.size (w.heap.size + 1) code _ _ W h.p h.q (by omega) ⟨HC⟩).mono ?_
 rintro e u' w2 ⟨rfl, rfl, w1, hb, rfl⟩
 have hs : settle (.panicking ({ v := .iface T u, recovered := true } :: older)) = .returning := by
  simp only [settle, ho]
 show Leaves _ _ _ _ [] (settle _) _;rw [hs]
 exact ty_ends 0 code w _ tmps ((h.below hb).put 0 code) h4 h5
set_option maxHeartbeats 4000000 in
set_option maxRecDepth 100000 in
theorem typeOf_bad (A A1 : Option Addr) (n c n1 c1 : Nat) (w : World) (hG : ErrT w)
 (HV : Aside0 (∀ W, Below w.heap.size w W → Calls Tryz.prog 30 #[.slice A n c] W (RetB (.bool false) W))) :
 Calls Tryz.prog 15 #[.slice A n c, .slice A1 n1 c1] w (TyOut 0 159 w) := by
 have hmf : ∀ (fn : Fn) (first cap : Array Value) (w : World), (Instr.makeFunc fn first cap).run Tryz.prog w = .ok (.func fn first cap) w := fun _ _ _ _ => rfl
 have HT := Aside0.mk (tyW_new w);have HG := Aside0.mk hG;clear hG
 go_enter_defers Tryz.func15, Tryz.ntmps15
 go_wp2_with (first
  | (go_at_call 30; go_must (refine (HV.out _ HT.out.b).mono ?_; rintro e w1 ⟨rfl, hb⟩; have ab := Aside0.mk (HT.out.below hb); clear hb))
  | (go_at_call 31; go_must (refine (vp 159 _).mono ?_; rintro e w2 ⟨hb, b, rfl, hc⟩)))
 have aa := ab.out.below hb
 exact ty_dies 120 (.pointer (some ⟨b, 0, none⟩)) [] 159 0 0 w w2 _ rfl aa rfl rfl (codeOf_fault ⟨b, 0, none⟩ 159 w2 (qB aa.b HG.out) hc)
set_option maxHeartbeats 4000000 in
set_option maxRecDepth 100000 in
theorem typeOf_err (code : Int) (A A1 : Option Addr) (n c n1 c1 : Nat) (w : World) (hG : ErrT w)
 (HV : Aside0 (∀ W, Below w.heap.size w W → Calls Tryz.prog 30 #[.slice A n c] W (RetB (.bool true) W)))
 (HR : Aside0 (∀ W, Below w.heap.size w W → Calls Tryz.prog 32 #[.slice A n c, .slice A1 n1 c1] W (vR code W))) :
 Calls Tryz.prog 15 #[.slice A n c, .slice A1 n1 c1] w (TyOut 0 code w) := by
 have hmf : ∀ (fn : Fn) (first cap : Array Value) (w : World), (Instr.makeFunc fn first cap).run Tryz.prog w = .ok (.func fn first cap) w := fun _ _ _ _ => rfl
 have HT := Aside0.mk (tyW_new w);have HG := Aside0.mk hG;clear hG
 go_enter_defers Tryz.func15, Tryz.ntmps15
 go_wp2_with (first
  | (go_at_call 30; go_must (refine (HV.out _ HT.out.b).mono ?_; rintro e w1 ⟨rfl, hb⟩; have aa := Aside0.mk (HT.out.below hb); clear hb))
  | (go_at_call 32; go_must (refine (HR.out _ aa.out.b).mono ?_; rintro e w2 ⟨hb, p, a, older, rfl, ho, h1, h2⟩)))
 have ab := aa.out.below hb
 exact ty_dies 166 (.pointer (some ⟨p, 0, none⟩)) older code 0 0 w w2 _ ho ab rfl rfl (codeOf_place ⟨p, 0, none⟩ a code w2 (qB ab.b HG.out) h1 h2)
set_option maxHeartbeats 4000000 in
set_option maxRecDepth 100000 in
theorem typeOf_ok (k : Int) (A A1 : Option Addr) (n c n1 c1 : Nat) (w : World)
 (HV : Aside0 (∀ W, Below w.heap.size w W → Calls Tryz.prog 30 #[.slice A n c] W (RetB (.bool true) W)))
 (HR : Aside0 (∀ W, Below w.heap.size w W → Calls Tryz.prog 32 #[.slice A n c, .slice A1 n1 c1] W (fun e w' => ∃ v, e = .returned v ∧ zQ w' v k ∧ Below W.heap.size W w'))) :
 Calls Tryz.prog 15 #[.slice A n c, .slice A1 n1 c1] w (TyOut k 0 w) := by
 have hmf : ∀ (fn : Fn) (first cap : Array Value) (w : World), (Instr.makeFunc fn first cap).run Tryz.prog w = .ok (.func fn first cap) w := fun _ _ _ _ => rfl
 have HT := Aside0.mk (tyW_new w)
 go_enter_defers Tryz.func15, Tryz.ntmps15
 go_wp2_with (first
  | (go_at_call 30; go_must (refine (HV.out _ HT.out.b).mono ?_; rintro e w1 ⟨rfl, hb⟩; have ac := Aside0.mk (HT.out.below hb); clear hb))
  | (go_at_call 32; go_must (refine (HR.out _ ac.out.b).mono ?_; rintro e w2 ⟨v, rfl, ⟨T, u, K, rv, rfl, am, an, ae⟩, hb⟩; have aa := Aside0.mk (ac.out.below hb); have HM := Aside0.mk ae; have ah := hb.size; have c4 : w2.cell? ⟨w.heap.size, 0, none⟩ = some (.int .i64 0) := (qa aa.out.p 0).trans rfl; have f4 := qc aa.out.p 0; have c5 : w2.cell? ⟨w.heap.size + 1, 0, none⟩ = some (.int .i64 0) := (qa aa.out.q 0).trans rfl; have f5 := qc aa.out.q 0; clear ae hb ah))
  | (go_at_fn K; go_must (refine (HM.out _ (Below.refl _ _)).mono ?_; rintro e w3 ⟨rfl, hb⟩; have ab := Aside0.mk (aa.out.below hb); have c4 : w3.cell? ⟨w.heap.size, 0, none⟩ = some (.int .i64 0) := (qa ab.out.p 0).trans rfl; have f4 := qc ab.out.p 0; have c5 : w3.cell? ⟨w.heap.size + 1, 0, none⟩ = some (.int .i64 0) := (qa ab.out.q 0).trans rfl; have f5 := qc ab.out.q 0; clear hb)))
 refine leaves_cons (f := 28) (args := #[.pointer (some ⟨w.heap.size, 0, none⟩), .pointer (some ⟨w.heap.size + 1, 0, none⟩)]) (by simp) (by simp [go_sem]) ?_;refine (catchT_idle _ _ _).mono ?_
 rintro e u' w4 ⟨rfl, rfl, rfl⟩
 exact ty_ends k 0 w _ _ (ab.out.put k 0) rfl rfl
theorem span_ark {s : ByteArray} {n : Nat} (h : vA s n = true) : 1 ≤ n ∧ n ≤ 33 ∧ (s.toList = ([115, 117, 98, 115, 116, 114] : List UInt8) → 2 ≤ n) := by
 unfold vA at h;simp only [Bool.and_eq_true, decide_eq_true_eq] at h;obtain ⟨⟨h1, h2⟩, h3⟩ := h
 have key : (xr s).2.2 = false ∨ (1 ≤ (xr s).1 ∧ (xr s).2.1 ≤ 16) := by
  unfold xr
  repeat' split
  all_goals simp
 refine ⟨?_, ?_, fun hs => ?_⟩
 · rcases key with k | k
   · rw [h1] at k; cases k
   · omega
 · rcases key with k | k
   · rw [h1] at k; cases k
   · omega
 · have e : xr s = (3, 3, true) := by
    unfold xr;rw [if_neg (by rw [hs]; decide), if_neg (by rw [hs]; decide), if_neg (by rw [hs]; decide), if_neg (by rw [hs]; decide), if_neg (by rw [hs]; decide), if_pos hs]
   rw [e] at h2
   dsimp only at h2
   omega
theorem takes_ark {op : Int} {s : ByteArray} {n : Nat} (h : qY op s n = true) : ArK op s n := by
 unfold qY at h
 by_cases a1 : 1 ≤ op ∧ op ≤ 6
 · rw [if_pos a1] at h; simp only [decide_eq_true_eq] at h; exact .inl ⟨a1.1, a1.2, h⟩
 rw [if_neg a1] at h
 have big : ∀ m : Prop, (7 ≤ op → op ≤ 28 → 1 ≤ n → n ≤ 33 → (op = 28 → n % 2 = 1) → ArK op s n) := fun _ h1 h2 h3 h4 h5 => .inr ⟨h1, by omega, h3, h4, h5, fun h => by omega⟩
 by_cases a2 : 7 ≤ op ∧ op ≤ 10
 · rw [if_pos a2] at h; simp only [decide_eq_true_eq] at h; exact big True a2.1 (by omega) (by omega) (by omega) (by omega)
 rw [if_neg a2] at h
 by_cases a3 : 11 ≤ op ∧ op ≤ 25
 · rw [if_pos a3] at h; simp only [decide_eq_true_eq] at h; exact big True (by omega) (by omega) (by omega) (by omega) (by omega)
 rw [if_neg a3] at h
 by_cases a4 : op = 26
 · rw [if_pos a4] at h; simp only [decide_eq_true_eq] at h; exact big True (by omega) (by omega) (by omega) (by omega) (by omega)
 rw [if_neg a4] at h
 by_cases a5 : op = 27
 · rw [if_pos a5] at h; simp only [decide_eq_true_eq] at h; exact big True (by omega) (by omega) (by omega) (by omega) (by omega)
 rw [if_neg a5] at h
 by_cases a6 : op = 28
 · rw [if_pos a6] at h; simp only [decide_eq_true_eq] at h; exact big True (by omega) (by omega) (by omega) (by omega) (by omega)
 rw [if_neg a6] at h
 by_cases a7 : op = 29
 · rw [if_pos a7] at h
   obtain ⟨h1, h2, h3⟩ := span_ark h
   exact .inr ⟨by omega, by omega, h1, h2, fun h => by omega, fun _ => h3⟩
 rw [if_neg a7] at h
 cases h
theorem okLen_of : ∀ (xs : List S86) (st : List Tr) (t : Tr), runP st xs = some [t] → okLen st.length xs
 | [], st, t, h => by
  simp only [runP] at h
  injection h with h
  rw [h]; rfl
 | x :: r, st, t, h => by
  simp only [runP] at h;obtain ⟨s, hs, hr⟩ := Option.bind_eq_some_iff.1 h;unfold xt at hs
  split at hs
  · cases hs
  · rename_i hc
    split at hs
    · rename_i ht
      injection hs with hs
      have hl : s.length = st.length - x.f1.toNat + 1 := by rw [← hs, List.length_append, List.length_take]; simp only [List.length_singleton]; omega
      have ih := okLen_of r s t hr;rw [hl] at ih
      exact ⟨by omega, by omega, takes_ark ht, ih⟩
    · cases hs
theorem printE_ok {xs : List S86} (h : (zB xs).2 = 0) : okLen 0 xs := by
 unfold zB at h
 by_cases hb : (xP xs).2 = true
 · unfold xP at hb
   cases hg : zE xs with
   | none => rw [hg] at hb; cases hb
   | some t =>
    unfold zE at hg
    cases hr : runP [] xs with
    | none => rw [hr] at hg; cases hg
    | some l =>
     rw [hr] at hg
     cases l with
     | nil => cases hg
     | cons a l =>
      cases l with
      | nil => exact okLen_of xs [] a hr
      | cons b l => cases hg
 · rw [if_neg hb] at h
   exact absurd h (by decide)
set_option maxRecDepth 100000 in
theorem valid_calls (A : Option Addr) (n c : Nat) (s : ByteArray) (code : Int) (b : Bool) (hb : (code == 0) = b) (w : World)
 (HP : Aside0 (Calls Tryz.prog 68 #[.slice A n c] w fun e w' => e = .returned (.tuple #[.string s, .int .i64 code]) ∧ Below w.heap.size w w')) :
 Calls Tryz.prog 30 #[.slice A n c] w (RetB (.bool b) w) := by
 go_enter Tryz.func30, Tryz.ntmps30
 go_wp2_with (first | (go_at_call 68; go_must (refine HP.out.mono ?_; rintro e w1 ⟨rfl, hb⟩; have HB := Aside0.mk hb; clear hb)))
 go_ret
 exact ⟨rfl, HB.out⟩
def typeK (l : List S86) (cols : List S93) : Int × Int := if (runT cols [] l).1 = 0 then ((runT cols [] l).2.headD 0, 0) else (0, (runT cols [] l).1)
def zU.f (l : List S86) (cols : List S93) : Option (Int × Int) := if okIn l = true ∧ cols.length ≤ 1000000000 then some (if (zB l).2 = 0 then typeK l cols else (0, 159)) else none
structure GL (w : World) : Prop where
 gt : GT w
 er : ErrT w
theorem GL.below {w w' : World} (h : GL w) (hb : Below w.heap.size w w') : GL w' := ⟨h.gt.below hb, qB hb h.er⟩
theorem zU.calls (A0 : Option Addr) (c0 : Nat) (l0 : List S86) (A1 : Option Addr) (c1 : Nat) (l1 : List S93) (r1 : Int) (r2 : Int) (w : World) (ag : Kd.C k86 w A0 l0.length l0) (aj : l0.length ≤ c0) (ak : Kd.C k93 w A1 l1.length l1) (am : l1.length ≤ c1) (h : zU.f l0 l1 = some (r1, r2)) (hG : GL w) :
 Calls Tryz.prog 15 #[.slice A0 l0.length c0, .slice A1 l1.length c1] w fun e w' => e = .returned (.tuple #[.int .i64 r1, .int .i64 r2]) ∧ Below w.heap.size w w' := by
 unfold zU.f at h
 by_cases hi : okIn l0 = true ∧ l1.length ≤ 1000000000
 case neg => rw [if_neg hi] at h; cases h
 rw [if_pos hi] at h;obtain ⟨ho, hl⟩ := hi;have hn := ((okIn_iff l0).1 ho).1
 have hV : ∀ b, ((zB l0).2 == 0) = b → ∀ W, Below w.heap.size w W → Calls Tryz.prog 30 #[.slice A0 l0.length c0] W (RetB (.bool b) W) := fun b hb W hW =>
  valid_calls A0 l0.length c0 _ _ b hb W ⟨zz.calls A0 c0 l0 ⟨(zB l0).1.toArray⟩ (zB l0).2 W (Kd.C_below ag hW) aj (by unfold zz.f; rw [if_pos ho]) (hG.gt.below hW)⟩
 by_cases hp : (zB l0).2 = 0
 · rw [if_pos hp] at h
   have hT : ∀ W, Below w.heap.size w W → Calls Tryz.prog 32 #[.slice A0 l0.length c0, .slice A1 l1.length c1] W (TreeOut (runT l1 [] l0) W) := fun W hW =>
    tree_calls A0 A1 l0.length c0 l1.length c1 l0 l1 W (Kd.C_below ag hW) (Kd.C_below ak hW) hn hl (qB hW hG.er) (printE_ok hp)
   unfold typeK at h
   by_cases he : (runT l1 [] l0).1 = 0
   · rw [if_pos he] at h
     injection h with h
     injection h with h1 h2
     subst h1 h2;refine typeOf_ok _ A0 A1 l0.length c0 l1.length c1 w ⟨hV true (by rw [hp]; rfl)⟩ ⟨fun W hW => (hT W hW).mono ?_⟩
     rintro e w' (⟨_, v, k, hk, rfl, h3, h4⟩ | ⟨h3, _⟩)
     · rw [hk]; exact ⟨v, rfl, h3, h4⟩
     · exact absurd he h3
   · rw [if_neg he] at h
     injection h with h
     injection h with h1 h2
     subst h1 h2;refine typeOf_err _ A0 A1 l0.length c0 l1.length c1 w hG.er ⟨hV true (by rw [hp]; rfl)⟩ ⟨fun W hW => (hT W hW).mono ?_⟩
     rintro e w' (⟨h3, _⟩ | ⟨_, h3⟩)
     · exact absurd h3 he
     · exact h3
 · rw [if_neg hp] at h
   injection h with h
   injection h with h1 h2
   subst h1 h2
   exact typeOf_bad A0 A1 l0.length c0 l1.length c1 w hG.er ⟨hV false (by simpa using hp)⟩
def qx.j0 : Nat → Int → ByteArray → Bool → Option (Bool)
 | 0, _, _, _ => none
 | k + 1, x1, x5, x6 => if x6 = true then (some (x1 == 1)) else (if x5.toList = ([110, 117, 108, 108, 105, 102] : List UInt8) then (some (x1 == 2)) else (if x5.toList = ([115, 117, 98, 115, 116, 114] : List UInt8) then (some (x1 == 3)) else (if x5.toList = ([99, 111, 97, 108, 101, 115, 99, 101] : List UInt8) then (if x1 ≥ 1 then (some (decide (x1 ≤ 16))) else (some false)) else (if x5.toList = ([108, 101, 97, 115, 116] : List UInt8) then (if x1 ≥ 1 then (some (decide (x1 ≤ 16))) else (some false)) else (if x5.toList = ([103, 114, 101, 97, 116, 101, 115, 116] : List UInt8) then (if x1 ≥ 1 then (some (decide (x1 ≤ 16))) else (some false)) else (some false))))))
def qx.f (k : Nat) (a0 : ByteArray) (a1 : Int) : Option (Bool) := if a0.toList = ([97, 98, 115] : List UInt8) then (qx.j0 k a1 a0 (a0.toList == ([97, 98, 115] : List UInt8))) else (if a0.toList = ([108, 101, 110, 103, 116, 104] : List UInt8) then (qx.j0 k a1 a0 (a0.toList == ([108, 101, 110, 103, 116, 104] : List UInt8))) else (if a0.toList = ([108, 111, 119, 101, 114] : List UInt8) then (qx.j0 k a1 a0 (a0.toList == ([108, 111, 119, 101, 114] : List UInt8))) else (qx.j0 k a1 a0 (a0.toList == ([117, 112, 112, 101, 114] : List UInt8)))))
theorem qx.mono_l : ∀ k, (∀ y0 y1 y2, LeO (qx.j0 k y0 y1 y2) (qx.j0 (k + 1) y0 y1 y2))
 | 0 => fun _ _ _ r h => by simp [qx.j0] at h
 | k + 1 => by
  have aa := qx.mono_l k
  · intro y0 y1 y2
    unfold qx.j0
    repeat' first
    | (with_reducible exact aa _ _ _)
    | (with_reducible exact LeO.refl _)
    | (with_reducible exact LeO.none _)
    | (with_reducible refine LeO.ite ?_ ?_)
    | (with_reducible refine LeO.bind ?_ (fun _ => ?_))
    | exact aa _ _ _
    | exact LeO.none _
    | refine LeO.ite ?_ ?_
    | refine LeO.bind ?_ (fun _ => ?_)
theorem qx.mono : ∀ a0 a1 k, LeO (qx.f k a0 a1) (qx.f (k + 1) a0 a1) := by
 intro a0 a1 k;have aa := qx.mono_l k;unfold qx.f
 repeat' first
  | (with_reducible exact aa _ _ _)
  | (with_reducible exact LeO.refl _)
  | (with_reducible exact LeO.none _)
  | (with_reducible refine LeO.ite ?_ ?_)
  | (with_reducible refine LeO.bind ?_ (fun _ => ?_))
  | exact aa _ _ _
  | exact LeO.none _
  | refine LeO.ite ?_ ?_
  | refine LeO.bind ?_ (fun _ => ?_)
set_option maxHeartbeats 8000000 in
set_option maxRecDepth 100000 in
theorem qx.calls (k : Nat) (a0 : ByteArray) (a1 : Int) (r : Bool) (w : World) (h : qx.f k a0 a1 = some r) :
 Calls Tryz.prog 175 #[.string a0, .int .i64 a1] w fun e w' => e = .returned (.bool r) ∧ qt w w' := by
 have H : (if a0.toList = ([97, 98, 115] : List UInt8) then (qx.j0 k a1 a0 (a0.toList == ([97, 98, 115] : List UInt8))) else (if a0.toList = ([108, 101, 110, 103, 116, 104] : List UInt8) then (qx.j0 k a1 a0 (a0.toList == ([108, 101, 110, 103, 116, 104] : List UInt8))) else (if a0.toList = ([108, 111, 119, 101, 114] : List UInt8) then (qx.j0 k a1 a0 (a0.toList == ([108, 111, 119, 101, 114] : List UInt8))) else (qx.j0 k a1 a0 (a0.toList == ([117, 112, 112, 101, 114] : List UInt8)))))) = some r := h;clear h;have ap := Aside0.mk H;clear H
 go_enter Tryz.func175, Tryz.ntmps175
 go_upto_if 6 with (fail)
 go_cut [6] (fun v6 wc => ∃ (kq : Nat) (ak : Bool), v6 = .bool ak ∧ Aside0 (qx.j0 kq a1 a0 ak = some r) ∧ Aside0 (kq ≤ k) ∧ qt w wc)
 case first =>
  have H := ap.out;clear ap
  by_cases c4 : a0.toList = ([97, 98, 115] : List UInt8)
  · rw [if_pos c4] at H
    have ac : (a0.toList == ([97, 98, 115] : List UInt8)) = true := beq_iff_eq.mpr c4;have au : (a0.toList != ([97, 98, 115] : List UInt8)) = false := bne_eq_false_iff_eq.mpr c4;clear c4
    (first | rw [ac] | (simp only [qH, qK]; rw [ac]) | skip)
    have H' := Aside0.mk H;clear H;go_wp2;go_meet
    case rel => exact ⟨_, ((a0.toList == ([97, 98, 115] : List UInt8))), (by first | rfl | (simp; done) | (simp [*]; done)), H', ⟨by first | omega | exact Nat.le_refl _⟩, by repeat (first | exact qt.refl _ | apply qt.step)⟩
  · rw [if_neg c4] at H
    have ac : (a0.toList == ([97, 98, 115] : List UInt8)) = false := beq_eq_false_iff_ne.mpr c4;have au : (a0.toList != ([97, 98, 115] : List UInt8)) = true := bne_iff_ne.mpr c4
    (first | rw [ac] | (simp only [qH, qK]; rw [ac]) | skip)
    by_cases c5 : a0.toList = ([108, 101, 110, 103, 116, 104] : List UInt8)
    · rw [if_pos c5] at H
      have av : (a0.toList == ([108, 101, 110, 103, 116, 104] : List UInt8)) = true := beq_iff_eq.mpr c5;have aw : (a0.toList != ([108, 101, 110, 103, 116, 104] : List UInt8)) = false := bne_eq_false_iff_eq.mpr c5;clear c5;have H' := Aside0.mk H;clear H;go_wp2;go_meet
      case rel => exact ⟨_, ((a0.toList == ([108, 101, 110, 103, 116, 104] : List UInt8))), (by first | rfl | (simp; done) | (simp [*]; done)), H', ⟨by first | omega | exact Nat.le_refl _⟩, by repeat (first | exact qt.refl _ | apply qt.step)⟩
    · rw [if_neg c5] at H
      have av : (a0.toList == ([108, 101, 110, 103, 116, 104] : List UInt8)) = false := beq_eq_false_iff_ne.mpr c5;have aw : (a0.toList != ([108, 101, 110, 103, 116, 104] : List UInt8)) = true := bne_iff_ne.mpr c5
      by_cases c6 : a0.toList = ([108, 111, 119, 101, 114] : List UInt8)
      · rw [if_pos c6] at H
        have ax : (a0.toList == ([108, 111, 119, 101, 114] : List UInt8)) = true := beq_iff_eq.mpr c6;have ay : (a0.toList != ([108, 111, 119, 101, 114] : List UInt8)) = false := bne_eq_false_iff_eq.mpr c6;clear c6;have H' := Aside0.mk H;clear H;go_wp2;go_meet
        case rel => exact ⟨_, ((a0.toList == ([108, 111, 119, 101, 114] : List UInt8))), (by first | rfl | (simp; done) | (simp [*]; done)), H', ⟨by first | omega | exact Nat.le_refl _⟩, by repeat (first | exact qt.refl _ | apply qt.step)⟩
      · rw [if_neg c6] at H
        have ax : (a0.toList == ([108, 111, 119, 101, 114] : List UInt8)) = false := beq_eq_false_iff_ne.mpr c6;have ay : (a0.toList != ([108, 111, 119, 101, 114] : List UInt8)) = true := bne_iff_ne.mpr c6;have H' := Aside0.mk H;clear H;go_wp2;go_meet
        case rel => exact ⟨_, ((a0.toList == ([117, 112, 112, 101, 114] : List UInt8))), (by first | rfl | (simp; done) | (simp [*]; done)), H', ⟨by first | omega | exact Nat.le_refl _⟩, by repeat (first | exact qt.refl _ | apply qt.step)⟩
 case rest =>
  clear ap
  (try clear c1); (try clear p2); (try clear c4); (try clear ac); (try clear au); (try clear c5); (try clear av); (try clear aw); (try clear c6); (try clear ax); (try clear ay)
  obtain ⟨kq, ak, rfl, HA, bi, ⟨bj, rfl⟩⟩ := hcut
  cases kq with
  | zero => exact absurd HA.out (by simp [qx.j0])
  | succ bk =>
   have H := HA.out;clear HA;simp only [qx.j0] at H
   by_cases c7 : ak = true
   · subst c7
     have H1 : (some (a1 == 1)) = some r := by rw [if_pos rfl] at H; exact H
     clear H;have H := H1;clear H1;obtain rfl := Option.some.inj H;go_wp2
     go_ret
     exact ⟨by first | rfl | (simp; done) | (simp [*]; done), by repeat (first | exact qt.refl _ | apply qt.step)⟩
   · replace c7 := Bool.eq_false_iff.mpr c7
     subst c7
     have H1 : (if a0.toList = ([110, 117, 108, 108, 105, 102] : List UInt8) then (some (a1 == 2)) else (if a0.toList = ([115, 117, 98, 115, 116, 114] : List UInt8) then (some (a1 == 3)) else (if a0.toList = ([99, 111, 97, 108, 101, 115, 99, 101] : List UInt8) then (if a1 ≥ 1 then (some (decide (a1 ≤ 16))) else (some false)) else (if a0.toList = ([108, 101, 97, 115, 116] : List UInt8) then (if a1 ≥ 1 then (some (decide (a1 ≤ 16))) else (some false)) else (if a0.toList = ([103, 114, 101, 97, 116, 101, 115, 116] : List UInt8) then (if a1 ≥ 1 then (some (decide (a1 ≤ 16))) else (some false)) else (some false)))))) = some r := by rw [if_neg (show ¬ (false = true) by decide)] at H; exact H
     clear H;have H := H1;clear H1
     by_cases c8 : a0.toList = ([110, 117, 108, 108, 105, 102] : List UInt8)
     · rw [if_pos c8] at H
       have bc : (a0.toList == ([110, 117, 108, 108, 105, 102] : List UInt8)) = true := beq_iff_eq.mpr c8;have bd : (a0.toList != ([110, 117, 108, 108, 105, 102] : List UInt8)) = false := bne_eq_false_iff_eq.mpr c8;clear c8;obtain rfl := Option.some.inj H;go_wp2
       go_ret
       exact ⟨by first | rfl | (simp; done) | (simp [*]; done), by repeat (first | exact qt.refl _ | apply qt.step)⟩
     · rw [if_neg c8] at H
       have bc : (a0.toList == ([110, 117, 108, 108, 105, 102] : List UInt8)) = false := beq_eq_false_iff_ne.mpr c8;have bd : (a0.toList != ([110, 117, 108, 108, 105, 102] : List UInt8)) = true := bne_iff_ne.mpr c8
       by_cases c9 : a0.toList = ([115, 117, 98, 115, 116, 114] : List UInt8)
       · rw [if_pos c9] at H
         have bf : (a0.toList == ([115, 117, 98, 115, 116, 114] : List UInt8)) = true := beq_iff_eq.mpr c9;have bg : (a0.toList != ([115, 117, 98, 115, 116, 114] : List UInt8)) = false := bne_eq_false_iff_eq.mpr c9;clear c9;obtain rfl := Option.some.inj H;go_wp2
         go_ret
         exact ⟨by first | rfl | (simp; done) | (simp [*]; done), by repeat (first | exact qt.refl _ | apply qt.step)⟩
       · rw [if_neg c9] at H
         have bf : (a0.toList == ([115, 117, 98, 115, 116, 114] : List UInt8)) = false := beq_eq_false_iff_ne.mpr c9;have bg : (a0.toList != ([115, 117, 98, 115, 116, 114] : List UInt8)) = true := bne_iff_ne.mpr c9
         by_cases ae : a0.toList = ([99, 111, 97, 108, 101, 115, 99, 101] : List UInt8)
         · rw [if_pos ae] at H
           have a3 : (a0.toList == ([99, 111, 97, 108, 101, 115, 99, 101] : List UInt8)) = true := beq_iff_eq.mpr ae;have a4 : (a0.toList != ([99, 111, 97, 108, 101, 115, 99, 101] : List UInt8)) = false := bne_eq_false_iff_eq.mpr ae;clear ae
           by_cases ah : a1 ≥ 1
           · rw [if_pos ah] at H
             have a5 : decide (1 ≤ a1) = true := decide_eq_true ah;clear ah;obtain rfl := Option.some.inj H;go_wp2
             go_ret
             exact ⟨by first | rfl | (simp; done) | (simp [*]; done), by repeat (first | exact qt.refl _ | apply qt.step)⟩
           · rw [if_neg ah] at H
             have a5 : decide (1 ≤ a1) = false := decide_eq_false ah;clear ah;obtain rfl := Option.some.inj H;go_wp2
             go_ret
             exact ⟨by first | rfl | (simp; done) | (simp [*]; done), by repeat (first | exact qt.refl _ | apply qt.step)⟩
         · rw [if_neg ae] at H
           have a3 : (a0.toList == ([99, 111, 97, 108, 101, 115, 99, 101] : List UInt8)) = false := beq_eq_false_iff_ne.mpr ae;have a4 : (a0.toList != ([99, 111, 97, 108, 101, 115, 99, 101] : List UInt8)) = true := bne_iff_ne.mpr ae
           by_cases af : a0.toList = ([108, 101, 97, 115, 116] : List UInt8)
           · rw [if_pos af] at H
             have a6 : (a0.toList == ([108, 101, 97, 115, 116] : List UInt8)) = true := beq_iff_eq.mpr af;have a7 : (a0.toList != ([108, 101, 97, 115, 116] : List UInt8)) = false := bne_eq_false_iff_eq.mpr af;clear af
             by_cases ai : a1 ≥ 1
             · rw [if_pos ai] at H
               have a8 : decide (1 ≤ a1) = true := decide_eq_true ai;clear ai;obtain rfl := Option.some.inj H;go_wp2
               go_ret
               exact ⟨by first | rfl | (simp; done) | (simp [*]; done), by repeat (first | exact qt.refl _ | apply qt.step)⟩
             · rw [if_neg ai] at H
               have a8 : decide (1 ≤ a1) = false := decide_eq_false ai;clear ai;obtain rfl := Option.some.inj H;go_wp2
               go_ret
               exact ⟨by first | rfl | (simp; done) | (simp [*]; done), by repeat (first | exact qt.refl _ | apply qt.step)⟩
           · rw [if_neg af] at H
             have a6 : (a0.toList == ([108, 101, 97, 115, 116] : List UInt8)) = false := beq_eq_false_iff_ne.mpr af;have a7 : (a0.toList != ([108, 101, 97, 115, 116] : List UInt8)) = true := bne_iff_ne.mpr af
             by_cases ag : a0.toList = ([103, 114, 101, 97, 116, 101, 115, 116] : List UInt8)
             · rw [if_pos ag] at H
               have a9 : (a0.toList == ([103, 114, 101, 97, 116, 101, 115, 116] : List UInt8)) = true := beq_iff_eq.mpr ag;have ba : (a0.toList != ([103, 114, 101, 97, 116, 101, 115, 116] : List UInt8)) = false := bne_eq_false_iff_eq.mpr ag;clear ag
               by_cases aj : a1 ≥ 1
               · rw [if_pos aj] at H
                 have bb : decide (1 ≤ a1) = true := decide_eq_true aj;clear aj;obtain rfl := Option.some.inj H;go_wp2
                 go_ret
                 exact ⟨by first | rfl | (simp; done) | (simp [*]; done), by repeat (first | exact qt.refl _ | apply qt.step)⟩
               · rw [if_neg aj] at H
                 have bb : decide (1 ≤ a1) = false := decide_eq_false aj;clear aj;obtain rfl := Option.some.inj H;go_wp2
                 go_ret
                 exact ⟨by first | rfl | (simp; done) | (simp [*]; done), by repeat (first | exact qt.refl _ | apply qt.step)⟩
             · rw [if_neg ag] at H
               have a9 : (a0.toList == ([103, 114, 101, 97, 116, 101, 115, 116] : List UInt8)) = false := beq_eq_false_iff_ne.mpr ag;have ba : (a0.toList != ([103, 114, 101, 97, 116, 101, 115, 116] : List UInt8)) = true := bne_iff_ne.mpr ag;obtain rfl := Option.some.inj H;go_wp2
               go_ret
               exact ⟨by first | rfl | (simp; done) | (simp [*]; done), by repeat (first | exact qt.refl _ | apply qt.step)⟩
end Go.Proofs.YtfmgbgkcmmpcfaaGreatDoor.PTk

