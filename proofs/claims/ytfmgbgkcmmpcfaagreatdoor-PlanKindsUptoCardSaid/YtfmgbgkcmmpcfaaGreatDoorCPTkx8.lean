import Derived.Test.YtfmgbgkcmmpcfaaGreatDoorCPTkx0
import Derived.Test.YtfmgbgkcmmpcfaaGreatDoorCPTkx2
import Derived.Test.YtfmgbgkcmmpcfaaGreatDoorCPTkx5
import Derived.Test.YtfmgbgkcmmpcfaaGreatDoorCPTkx6
import Derived.Test.YtfmgbgkcmmpcfaaGreatDoorCPTkx7
namespace Go.Proofs.YtfmgbgkcmmpcfaaGreatDoor.PTk
open Go.RowKit Go.Proofs.YtfmgbgkcmmpcfaaGreatDoorW.PrintWords Go.Proofs.YtfmgbgkcmmpcfaaGreatDoorW.PrintLast Go.Proofs.YtfmgbgkcmmpcfaaGreatDoorW.PrintMore
attribute [local go_sem] zp zC
set_option linter.unusedVariables false
set_option linter.unusedSimpArgs false
def vR (code : Int) (w : World) (e : Ending) (w' : World) : Prop := Below w.heap.size w w' ∧ ∃ (p : Nat) (a : Addr) (older : List PanicEntry), e = .panicked ({ v := .iface 166 (.pointer (some ⟨p, 0, none⟩)), recovered := false } :: older) ∧ older.dropWhile (!·.goexit) = [] ∧
 w'.cell? ⟨p, 1, none⟩ = some (.iface 120 (.pointer (some a))) ∧ w'.cell? a = some (.int .i64 code)
theorem wrap_idle (p : Addr) (w : World) :
 CallsD Tryz.prog 103 #[.pointer (some p)] .returning w fun e u' w' => e = .returned (.tuple #[]) ∧ u' = .returning ∧ w' = w := by
 refine callsD_of_wpS Tryz.func103 rfl fun c₀ cs hu => ?_
 apply wpS_seq
 apply wpS_region
 simp [wpOpsS, go_sem, recoverD, hu, Tryz.ntmps103, Exit.thenS]
 refine wpS_of_wp ?_;change Code.wp _ _ _ { tmps := #[.pointer (some p), .nilIface, .nilIface, undef, undef, undef, undef, undef, undef, undef, undef, undef, undef, undef], defers := [] } _;go_wp2;refine ⟨rfl, .returning, ?_, _, results_none rfl _ _ _, rfl, rfl, rfl⟩
 cases c₀
 simp_all
def WrapOut (b : Nat) (code : Int) (w : World) (e : Ending) (u' : FrameMode) (w' : World) : Prop :=
 u' = .panicking [{ v := .iface 120 (.pointer (some ⟨b, 0, none⟩)), recovered := true }] ∧ Below w.heap.size w w' ∧ ∃ (p : Nat) (a : Addr), e = .panicked [{ v := .iface 166 (.pointer (some ⟨p, 0, none⟩)), recovered := false }] ∧
  w'.cell? ⟨p, 1, none⟩ = some (.iface 120 (.pointer (some a))) ∧ w'.cell? a = some (.int .i64 code)
set_option maxHeartbeats 4000000 in
set_option maxRecDepth 100000 in
theorem wrap_fault (g b : Nat) (at_ code : Int) (w : World) (hG : ErrT w) (hg : w.cell? ⟨g, 0, none⟩ = some (.int .i64 at_)) (hb : w.cell? ⟨b, 0, none⟩ = some (.int .i64 code)) :
 CallsD Tryz.prog 103 #[.pointer (some ⟨g, 0, none⟩)] (.panicking [{ v := .iface 120 (.pointer (some ⟨b, 0, none⟩)), recovered := false }]) w (WrapOut b code w) := by
 have HC := Aside0.mk (fun (W : World) (h : Below w.heap.size w W) => codeOf_fault ⟨b, 0, none⟩ code W (qB h hG) (qB h hb));have HB := Aside0.mk (Below.refl w.heap.size w)
 refine callsD_of_wpS Tryz.func103 rfl fun c₀ cs hu => ?_
 apply wpS_seq
 apply wpS_region
 simp [wpOpsS, go_sem, recoverD, hu, Tryz.ntmps103, Exit.thenS]
 refine wpS_of_wp ?_;change Code.wp _ _ _ { tmps := #[.pointer (some ⟨g, 0, none⟩), .iface 120 (.pointer (some ⟨b, 0, none⟩)), .iface 120 (.pointer (some ⟨b, 0, none⟩)), undef, undef, undef, undef, undef, undef, undef, undef, undef, undef, undef], defers := [] } _;clear hb;go_wp2
 go_region_dies
 all_goals (
  refine (HC.out _ (qb HB.out)).mono ?_
  rintro e w1 ⟨rfl, aa⟩
  have ab := Aside0.mk (qy (qb HB.out) (Below.size (qb HB.out)) aa);have ac := qB ab.out hg;have ae := World.block_lt_of_cell? w1 _ ac
  dsimp only at ae
  clear aa)
 all_goals (
  rename_i K0 h0
  refine h0 _ _ ?_
  clear h0 K0)
 iterate 7 (all_goals (try ((first | (refine wpAny_ready (rs := [0]) (by decide +kernel) (by simp) (AllReady.cons rfl (fun K hK => ?_) AllReady.nil)) | (refine wpAny_ready (rs := [3]) (by decide +kernel) (by simp) (AllReady.cons rfl (fun K hK => ?_) AllReady.nil)) | (refine wpAny_ready (rs := [4]) (by decide +kernel) (by simp) (AllReady.cons rfl (fun K hK => ?_) AllReady.nil)) | (refine wpAny_ready (rs := [5]) (by decide +kernel) (by simp) (AllReady.cons rfl (fun K hK => ?_) AllReady.nil)) | (refine wpAny_ready (rs := [6]) (by decide +kernel) (by simp) (AllReady.cons rfl (fun K hK => ?_) AllReady.nil)) | (refine wpAny_ready (rs := [7]) (by decide +kernel) (by simp) (AllReady.cons rfl (fun K hK => ?_) AllReady.nil)) | (refine wpAny_ready (rs := [8]) (by decide +kernel) (by simp) (AllReady.cons rfl (fun K hK => ?_) AllReady.nil)) | (refine wpAny_ready (rs := [0, 3]) (by decide +kernel) (by simp) (AllReady.cons rfl (fun K hK => ?_) (AllReady.cons rfl (fun K hK => ?_) AllReady.nil))) | (refine wpAny_ready (rs := [0, 4]) (by decide +kernel) (by simp) (AllReady.cons rfl (fun K hK => ?_) (AllReady.cons rfl (fun K hK => ?_) AllReady.nil))) | (refine wpAny_ready (rs := [0, 5]) (by decide +kernel) (by simp) (AllReady.cons rfl (fun K hK => ?_) (AllReady.cons rfl (fun K hK => ?_) AllReady.nil)))) <;> (go_simp; refine hK _ _ ?_; clear hK K))))
 all_goals (
  refine wpAny_ready (rs := [9]) (by decide +kernel) (by simp) (AllReady.cons rfl (fun K hK => ?_) AllReady.nil)
  go_simp)
 all_goals (
  clear hK K;have K1 := qL w1 (.cells #[.int .i64 code] 124);have K1' := qF K1 (q8 (Below.refl _ (w1.alloc (.cells #[.int .i64 code] 124))) (.cells #[.int .i64 at_, .iface 120 (.pointer (some ⟨w1.heap.size, 0, none⟩))] 168));have K2 := qL (w1.alloc (.cells #[.int .i64 code] 124)) (.cells #[.int .i64 at_, .iface 120 (.pointer (some ⟨w1.heap.size, 0, none⟩))] 168)
  have es : (w1.alloc (.cells #[.int .i64 code] 124)).heap.size = w1.heap.size + 1 := by show (w1.heap.push _).size = _; simp
  rw [es] at K2;refine ⟨rfl, .panicking [{ v := .iface 120 (.pointer (some ⟨b, 0, none⟩)), recovered := true }], ?_, rfl, q8 (q8 ab.out _) _, w1.heap.size + 1, ⟨w1.heap.size, 0, none⟩, rfl, (qa K2 1).trans rfl, (qa K1' 0).trans rfl⟩
  cases c₀
  simp_all)
theorem integer_calls (n : Int) (w : World) : Calls Tryz.prog 104 #[.int .i64 n] w (RetB (.agg #[.int .i64 2, .int .i64 n, .string ⟨#[]⟩]) w) := by
 have hu := Tryz.underlying170
 go_enter Tryz.func104, Tryz.ntmps104
 go_wp2
 exact bodyPost_ret (v := .agg #[.int .i64 2, .int .i64 n, .string ⟨#[]⟩]) (by simp [results, Tryz.results104, hu, go_sem]) rfl ⟨rfl, q8 (Below.refl _ _) _⟩
theorem text_calls (s : ByteArray) (w : World) : Calls Tryz.prog 105 #[.string s] w (RetB (.agg #[.int .i64 3, .int .i64 0, .string s]) w) := by
 have hu := Tryz.underlying170
 go_enter Tryz.func105, Tryz.ntmps105
 go_wp2
 exact bodyPost_ret (v := .agg #[.int .i64 3, .int .i64 0, .string s]) (by simp [results, Tryz.results105, hu, go_sem]) rfl ⟨rfl, q8 (Below.refl _ _) _⟩
theorem truth_true (w : World) : Calls Tryz.prog 106 #[.bool true] w (RetB (.agg #[.int .i64 1, .int .i64 1, .string ⟨#[]⟩]) w) := by
 have hu := Tryz.underlying170
 go_enter Tryz.func106, Tryz.ntmps106
 go_wp2
 exact bodyPost_ret (v := .agg #[.int .i64 1, .int .i64 1, .string ⟨#[]⟩]) (by simp [results, Tryz.results106, hu, go_sem]) rfl ⟨rfl, q8 (Below.refl _ _) _⟩
theorem truth_false (w : World) : Calls Tryz.prog 106 #[.bool false] w (RetB (.agg #[.int .i64 1, .int .i64 0, .string ⟨#[]⟩]) w) := by
 have hu := Tryz.underlying170
 go_enter Tryz.func106, Tryz.ntmps106
 go_wp2
 exact bodyPost_ret (v := .agg #[.int .i64 1, .int .i64 0, .string ⟨#[]⟩]) (by simp [results, Tryz.results106, hu, go_sem]) rfl ⟨rfl, q8 (Below.refl _ _) _⟩
def typeB (k : Int) : Bool := k == 1 || k == 2 || k == 3
theorem isType_calls (k : Int) (w : World) : Calls Tryz.prog 107 #[.int .i64 k] w (RetB (.bool (typeB k)) w) := by
 by_cases h1 : k = 1
 · subst h1
   go_enter Tryz.func107, Tryz.ntmps107
   go_wp2
   go_ret
   exact ⟨rfl, Below.refl _ _⟩
 by_cases h2 : k = 2
 · subst h2
   go_enter Tryz.func107, Tryz.ntmps107
   go_wp2
   go_ret
   exact ⟨rfl, Below.refl _ _⟩
 have e1 : (k == 1) = false := by simpa using h1
 have e2 : (k == 2) = false := by simpa using h2
 have e : typeB k = (k == 3) := by unfold typeB; rw [e1, e2]; rfl
 rw [e]
 go_enter Tryz.func107, Tryz.ntmps107
 go_wp2
 go_ret
 exact ⟨rfl, Below.refl _ _⟩
def KN (W : World) (v : Value) (k : Int) : Prop := (∃ i s, v = .iface 173 (.agg #[.int .i64 k, .int .i64 i, .string s])) ∨ (∃ a, v = .iface 177 (.agg #[.int .i64 a, .int .i64 k])) ∨
 ∃ b o s l, v = .iface 178 (.pointer (some ⟨b, 0, none⟩)) ∧ W.heap[b]? = some (.cells #[.int .i64 o, .string s, .int .i64 k, l] 181 (0, 0))
theorem KN.has {W : World} {v : Value} {k : Int} (h : KN W v k) : zQ W v k := by
 rcases h with ⟨i, s, rfl⟩ | ⟨a, rfl⟩ | ⟨b, o, s, l, rfl, hb⟩
 · exact kind_literal k i s W
 · exact kind_column a k W
 · exact kind_operation b k W ((qa hb 2).trans rfl)
theorem KN.iface {W : World} {v : Value} {k : Int} (h : KN W v k) : ∃ T u, v = .iface T u := by
 rcases h with ⟨i, s, rfl⟩ | ⟨a, rfl⟩ | ⟨b, o, s, l, rfl, hb⟩ <;> exact ⟨_, _, rfl⟩
theorem grown_dies (code at_ : Int) (b : Nat) (w W : World) (tmps : Array Value) (hb : Below w.heap.size w W) (hs : w.heap.size < W.heap.size) (hG : ErrT W) (hc : W.cell? ⟨w.heap.size, 0, none⟩ = some (.int .i64 at_)) (hf : W.cell? ⟨b, 0, none⟩ = some (.int .i64 code)) :
 Leaves Tryz.prog Tryz.f69 tmps (vR code w) [{ target := .fn (.func 103) #[.pointer (some ⟨w.heap.size, 0, none⟩)], args := #[] }] (.panicking (faultV b)) W := by
 refine leaves_cons (f := 103) (args := #[.pointer (some ⟨w.heap.size, 0, none⟩)]) (by simp) (by simp [go_sem]) ?_;refine (wrap_fault w.heap.size b at_ code W hG hc hf).mono ?_
 rintro e u' w2 ⟨rfl, aa, p, a, rfl, h1, h2⟩
 exact ⟨qy hb hb.size aa, p, a, [{ v := .iface 120 (.pointer (some ⟨b, 0, none⟩)), recovered := true }], rfl, rfl, h1, h2⟩
def xI (op : Int) (s : ByteArray) (cols : List S93) : Int × Int :=
 if op = 1 then (2, 0) else if op = 2 then (3, 0) else if op = 3 then (0, 0) else if op = 4 then (1, 0) else if op = 5 then (1, 0)
 else if zj s 0 cols < 0 then (0, 162) else if typeB (zr cols (zj s 0 cols)).f1 = true then ((zr cols (zj s 0 cols)).f1, 0) else (0, 163)
def GrOut (R : Int × Int) (w : World) (e : Ending) (w' : World) : Prop := (R.2 = 0 ∧ ∃ v, e = .returned v ∧ KN w' v R.1 ∧ Below w.heap.size w w') ∨ (¬ R.2 = 0 ∧ vR R.2 w e w')
abbrev grW (w : World) (at_ op f1 f2 : Int) (s : ByteArray) : World := (w.alloc (.cells #[.int .i64 at_] 3)).alloc (.cells #[.int .i64 op, .int .i64 f1, .int .i64 f2, .string s] 86)
structure GrW (w W : World) (at_ op f1 f2 : Int) (s : ByteArray) : Prop where
 hb : Below w.heap.size w W
 hs : w.heap.size < W.heap.size
 ca : W.cell? ⟨w.heap.size, 0, none⟩ = some (.int .i64 at_)
 c0 : W.cell? ⟨w.heap.size + 1, 0, none⟩ = some (.int .i64 op)
 c1 : W.cell? ⟨w.heap.size + 1, 1, none⟩ = some (.int .i64 f1)
 c2 : W.cell? ⟨w.heap.size + 1, 2, none⟩ = some (.int .i64 f2)
 c3 : W.cell? ⟨w.heap.size + 1, 3, none⟩ = some (.string s)
theorem grW_facts (w : World) (at_ op f1 f2 : Int) (s : ByteArray) : GrW w (grW w at_ op f1 f2 s) at_ op f1 f2 s := by
 have K0 := qL w (.cells #[.int .i64 at_] 3);have K0' := qF K0 (q8 (Below.refl _ (w.alloc (.cells #[.int .i64 at_] 3))) (.cells #[.int .i64 op, .int .i64 f1, .int .i64 f2, .string s] 86));have K1 := qL (w.alloc (.cells #[.int .i64 at_] 3)) (.cells #[.int .i64 op, .int .i64 f1, .int .i64 f2, .string s] 86);rw [World.size_alloc] at K1
 exact ⟨q8 (q8 (Below.refl _ _) _) _, by simp [World.size_alloc]; omega, (qa K0' 0).trans rfl, (qa K1 0).trans rfl, (qa K1 1).trans rfl, (qa K1 2).trans rfl, (qa K1 3).trans rfl⟩
theorem GrW.below {w W W' : World} {at_ op f1 f2 : Int} {s : ByteArray} (h : GrW w W at_ op f1 f2 s) (hb : Below W.heap.size W W') : GrW w W' at_ op f1 f2 s :=
 ⟨qy h.hb (Nat.le_of_lt h.hs) hb, Nat.lt_of_lt_of_le h.hs hb.size, qB hb h.ca, qB hb h.c0, qB hb h.c1, qB hb h.c2, qB hb h.c3⟩
set_option maxHeartbeats 4000000 in
set_option maxRecDepth 100000 in
theorem grown_lit (at_ op f1 f2 k i : Int) (s t : ByteArray) (A A1 : Option Addr) (n c n1 c1 : Nat) (w : World)
 (h : (op = 1 ∧ k = 2 ∧ i = f2 ∧ t = ⟨#[]⟩) ∨ (op = 2 ∧ k = 3 ∧ i = 0 ∧ t = s) ∨ (op = 3 ∧ k = 0 ∧ i = 0 ∧ t = ⟨#[]⟩) ∨ (op = 4 ∧ k = 1 ∧ i = 1 ∧ t = ⟨#[]⟩) ∨ (op = 5 ∧ k = 1 ∧ i = 0 ∧ t = ⟨#[]⟩)) :
 Calls Tryz.prog 69 #[.int .i64 at_, xj op f1 f2 s, .slice A n c, .slice A1 n1 c1] w (RetB (.iface 173 (.agg #[.int .i64 k, .int .i64 i, .string t])) w) := by
 have hmf : ∀ (fn : Fn) (first cap : Array Value) (w : World), (Instr.makeFunc fn first cap).run Tryz.prog w = .ok (.func fn first cap) w := fun _ _ _ _ => rfl
 have HF := Aside0.mk (grW_facts w at_ op f1 f2 s);have hu := Tryz.underlying173
 rcases h with ⟨rfl, rfl, rfl, rfl⟩ | ⟨rfl, rfl, rfl, rfl⟩ | ⟨rfl, rfl, rfl, rfl⟩ | ⟨rfl, rfl, rfl, rfl⟩ | ⟨rfl, rfl, rfl, rfl⟩
 all_goals (
  go_enter_defers Tryz.func69, Tryz.ntmps69
  go_wp2_with (first
   | (go_at_call 104; go_must (refine (integer_calls _ _).mono ?_; rintro e w1 ⟨rfl, hb⟩; have aa := Aside0.mk (HF.out.below hb); clear hb))
   | (go_at_call 105; go_must (refine (text_calls _ _).mono ?_; rintro e w1 ⟨rfl, hb⟩; have aa := Aside0.mk (HF.out.below hb); clear hb))
   | (go_at_call 106; (with_reducible refine (truth_true _).mono ?_); rintro e w1 ⟨rfl, hb⟩; have aa := Aside0.mk (HF.out.below hb); clear hb)
   | (go_at_call 106; (with_reducible refine (truth_false _).mono ?_); rintro e w1 ⟨rfl, hb⟩; have aa := Aside0.mk (HF.out.below hb); clear hb))
  refine leaves_cons (f := 103) (args := #[.pointer (some ⟨w.heap.size, 0, none⟩)]) (by simp) (by simp [go_sem]) ?_;refine (wrap_idle _ _).mono ?_
  rintro e u' w2 ⟨rfl, rfl, rfl⟩
  exact ⟨.iface 173 (.agg #[.int .i64 _, .int .i64 _, .string _]), by simp [results, Tryz.results69, go_sem], rfl, by first | exact aa.out.hb | exact HF.out.hb⟩)
set_option maxHeartbeats 4000000 in
set_option maxRecDepth 100000 in
theorem grown_col0 (at_ f1 f2 : Int) (s : ByteArray) (A A1 : Option Addr) (n c n1 c1 : Nat) (i : Int) (w : World) (hG : ErrT w) (hi : i < 0)
 (HA : Aside0 (∀ W, Below w.heap.size w W → Calls Tryz.prog 39 #[.slice A1 n1 c1, .string s] W (RetB (.int .i64 i) W))) :
 Calls Tryz.prog 69 #[.int .i64 at_, xj 6 f1 f2 s, .slice A n c, .slice A1 n1 c1] w (vR 162 w) := by
 have hmf : ∀ (fn : Fn) (first cap : Array Value) (w : World), (Instr.makeFunc fn first cap).run Tryz.prog w = .ok (.func fn first cap) w := fun _ _ _ _ => rfl
 have HF := Aside0.mk (grW_facts w at_ 6 f1 f2 s);have HG := Aside0.mk hG;have d1 : decide (i < 0) = true := decide_eq_true hi;clear hG
 go_enter_defers Tryz.func69, Tryz.ntmps69
 go_wp2_with (first
  | (go_at_call 39; go_must (refine (HA.out _ HF.out.hb).mono ?_; rintro e w1 ⟨rfl, hb⟩; have ae := Aside0.mk (HF.out.below hb); clear hb))
  | (go_at_call 31; go_must (refine (vp 162 _).mono ?_; rintro e w2 ⟨hb, b, rfl, hc⟩)))
 have aa := ae.out.below hb
 exact grown_dies 162 at_ b w w2 _ aa.hb aa.hs (qB aa.hb HG.out) aa.ca hc
set_option maxHeartbeats 4000000 in
set_option maxRecDepth 100000 in
theorem grown_col1 (at_ f1 f2 : Int) (s : ByteArray) (A A1 : Option Addr) (n c n1 c1 : Nat) (i : Nat) (cols : List S93) (w : World) (hG : ErrT w) (hC : Kd.C k93 w A1 n1 cols) (hi : i < n1) (hn : n1 ≤ 1000000000) (ht : typeB (zr cols i).f1 = false)
 (HA : Aside0 (∀ W, Below w.heap.size w W → Calls Tryz.prog 39 #[.slice A1 n1 c1, .string s] W (RetB (.int .i64 i) W))) :
 Calls Tryz.prog 69 #[.int .i64 at_, xj 6 f1 f2 s, .slice A n c, .slice A1 n1 c1] w (vR 163 w) := by
 have hmf : ∀ (fn : Fn) (first cap : Array Value) (w : World), (Instr.makeFunc fn first cap).run Tryz.prog w = .ok (.func fn first cap) w := fun _ _ _ _ => rfl
 have HF := Aside0.mk (grW_facts w at_ 6 f1 f2 s);have HG := Aside0.mk hG;have d1 : decide ((i : Int) < 0) = false := decide_eq_false (by omega)
 have d2 : (i : Int) < (n1 : Int) := by omega
 obtain ⟨ad, rfl, g0, g1, g2⟩ := at_T93 hC (i : Int) (by omega) d2;have ek : ((i : Int)).toNat = i := Int.toNat_natCast i;rw [ek] at g0 g1 g2;generalize zr cols i = x at *;obtain ⟨nm, ty, nn⟩ := x
 dsimp only at g0 g1 g2 ht
 have HT := Aside0.mk (fun W => ht ▸ isType_calls ty W);have HX := Aside0.mk (fun (W : World) (h : Below w.heap.size w W) => qB h g1);clear hG hC g0 g1 g2 ht ek
 go_enter_defers Tryz.func69, Tryz.ntmps69
 go_wp2_with (first
  | (go_at_call 39; go_must (refine (HA.out _ HF.out.hb).mono ?_; rintro e w1 ⟨rfl, hb⟩; have ae := Aside0.mk (HF.out.below hb); have g1 := HX.out _ ae.out.hb; clear hb))
  | (go_at_call 107; go_must (refine (HT.out _).mono ?_; rintro e w2 ⟨rfl, hb⟩; have ai := Aside0.mk (ae.out.below hb); clear hb))
  | (go_at_call 31; go_must (refine (vp 163 _).mono ?_; rintro e w3 ⟨hb, b, rfl, hc⟩)))
 have aa := ai.out.below hb
 exact grown_dies 163 at_ b w w3 _ aa.hb aa.hs (qB aa.hb HG.out) aa.ca hc
set_option maxHeartbeats 4000000 in
set_option maxRecDepth 100000 in
theorem grown_col2 (at_ f1 f2 : Int) (s : ByteArray) (A A1 : Option Addr) (n c n1 c1 : Nat) (i : Nat) (cols : List S93) (w : World) (hC : Kd.C k93 w A1 n1 cols) (hi : i < n1) (hn : n1 ≤ 1000000000) (ht : typeB (zr cols i).f1 = true)
 (HA : Aside0 (∀ W, Below w.heap.size w W → Calls Tryz.prog 39 #[.slice A1 n1 c1, .string s] W (RetB (.int .i64 i) W))) :
 Calls Tryz.prog 69 #[.int .i64 at_, xj 6 f1 f2 s, .slice A n c, .slice A1 n1 c1] w (RetB (.iface 177 (.agg #[.int .i64 i, .int .i64 (zr cols i).f1])) w) := by
 have hmf : ∀ (fn : Fn) (first cap : Array Value) (w : World), (Instr.makeFunc fn first cap).run Tryz.prog w = .ok (.func fn first cap) w := fun _ _ _ _ => rfl
 have HF := Aside0.mk (grW_facts w at_ 6 f1 f2 s);have d1 : decide ((i : Int) < 0) = false := decide_eq_false (by omega)
 have d2 : (i : Int) < (n1 : Int) := by omega
 obtain ⟨ad, rfl, g0, g1, g2⟩ := at_T93 hC (i : Int) (by omega) d2;have ek : ((i : Int)).toNat = i := Int.toNat_natCast i;rw [ek] at g0 g1 g2;generalize zr cols i = x at *;obtain ⟨nm, ty, nn⟩ := x
 dsimp only at g0 g1 g2 ht ⊢
 have HT := Aside0.mk (fun W => ht ▸ isType_calls ty W);have HX := Aside0.mk (fun (W : World) (h : Below w.heap.size w W) => qB h g1);clear hC g0 g1 g2 ht ek
 go_enter_defers Tryz.func69, Tryz.ntmps69
 go_wp2_with (first
  | (go_at_call 39; go_must (refine (HA.out _ HF.out.hb).mono ?_; rintro e w1 ⟨rfl, hb⟩; have ae := Aside0.mk (HF.out.below hb); have g1 := HX.out _ ae.out.hb; clear hb))
  | (go_at_call 107; go_must (refine (HT.out _).mono ?_; rintro e w2 ⟨rfl, hb⟩; have af := Aside0.mk (ae.out.below hb); have g2 := HX.out _ af.out.hb; clear hb)))
 refine leaves_cons (f := 103) (args := #[.pointer (some ⟨w.heap.size, 0, none⟩)]) (by simp) (by simp [go_sem]) ?_;refine (wrap_idle _ _).mono ?_
 rintro e u' w2 ⟨rfl, rfl, rfl⟩
 exact ⟨.iface 177 (.agg #[.int .i64 i, .int .i64 ty]), by simp [results, Tryz.results69, go_sem], rfl, af.out.hb⟩
structure GrB (w W : World) (at_ op f1 f2 : Int) (s : ByteArray) : Prop where
 hb : Below w.heap.size w W
 k0 : W.heap[w.heap.size]? = some (.cells #[.int .i64 at_] 3 (0, 0))
 k1 : W.heap[w.heap.size + 1]? = some (.cells #[.int .i64 op, .int .i64 f1, .int .i64 f2, .string s] 86 (0, 0))
theorem grB_new (w : World) (at_ op f1 f2 : Int) (s : ByteArray) : GrB w (grW w at_ op f1 f2 s) at_ op f1 f2 s := by
 have K0 := qL w (.cells #[.int .i64 at_] 3);have K0' := qF K0 (q8 (Below.refl _ (w.alloc (.cells #[.int .i64 at_] 3))) (.cells #[.int .i64 op, .int .i64 f1, .int .i64 f2, .string s] 86));have K1 := qL (w.alloc (.cells #[.int .i64 at_] 3)) (.cells #[.int .i64 op, .int .i64 f1, .int .i64 f2, .string s] 86);rw [World.size_alloc] at K1
 exact ⟨q8 (q8 (Below.refl _ _) _) _, K0', K1⟩
theorem GrB.below {w W W' : World} {at_ op f1 f2 : Int} {s : ByteArray} (h : GrB w W at_ op f1 f2 s) (hb : Below W.heap.size W W') : GrB w W' at_ op f1 f2 s :=
 ⟨qy h.hb h.hb.size hb, qF h.k0 hb, qF h.k1 hb⟩
theorem GrB.to {w W : World} {at_ op f1 f2 : Int} {s : ByteArray} (h : GrB w W at_ op f1 f2 s) : GrW w W at_ op f1 f2 s :=
 ⟨h.hb, zv h.k0, (qa h.k0 0).trans rfl, (qa h.k1 0).trans rfl, (qa h.k1 1).trans rfl, (qa h.k1 2).trans rfl, (qa h.k1 3).trans rfl⟩
theorem reads_args {W : World} {A : Option Addr} {vs : List Value} {ks : List Int} (h : RowK W A vs ks) (hn : ks.length ≤ 100) : zx (kV.K W) kV.sz W A ks.length vs := by
 refine ⟨h.len, by omega, fun hp => ?_⟩
 have hv : 0 < vs.length := by rw [h.len]; exact hp
 obtain ⟨ad, ha, _⟩ := h.cells 0 _ (List.getElem?_eq_getElem hv);refine ⟨ad, ha, fun j p hj => ?_⟩;obtain ⟨ad', ha', hc⟩ := h.cells j p hj;rw [ha] at ha'
 injection ha' with ha'
 subst ha';have hjl := (List.getElem?_eq_some_iff.1 hj).1;obtain ⟨T, u, K, rv, aa, _⟩ := h.kinds j p _ hj (List.getElem?_eq_getElem (by rw [← h.len]; exact hjl));refine ⟨[p], rfl, ⟨rfl, T, u, aa⟩, fun i u2 hu => ?_⟩
 cases i with
 | zero => injection hu with hu; subst hu; rw [show j * kV.sz + 0 = j from by show j * 1 + 0 = j; omega]; exact hc
 | succ i => simp at hu
def DiesOr (ds : List Deferred) (PF : List PanicEntry → World → Prop) (Q : Exit → Act → World → Prop) : Exit → Act → World → Prop
 | .panic c, a, w => a.defers = ds ∧ PF c w
 | e, a, w => Q e a w
theorem DiesOr.imp {ds : List Deferred} {PF : List PanicEntry → World → Prop} {Q : Exit → Act → World → Prop} (h : ∀ c a w, a.defers = ds → PF c w → Q (.panic c) a w) : ∀ e a w, DiesOr ds PF Q e a w → Q e a w := fun e a w hd => by
 cases e <;> first | exact hd | exact h _ _ _ hd.1 hd.2
theorem DiesOr.normal {ds : List Deferred} {PF : List PanicEntry → World → Prop} {Q : Exit → Act → World → Prop} {a : Act} {w : World} (h : Q .normal a w) : DiesOr ds PF Q .normal a w := h
def OpOut (R : Option Int) (w : World) (e : Ending) (w' : World) : Prop := (∃ k v, R = some k ∧ e = .returned v ∧ KN w' v k ∧ Below w.heap.size w w') ∨ (R = none ∧ vR 163 w e w')
theorem grown_diesR (Rr : Ending → World → Prop) (code at_ : Int) (b : Nat) (w W : World) (tmps : Array Value) (himp : ∀ e w', vR code w e w' → Rr e w') (hb : Below w.heap.size w W) (hs : w.heap.size < W.heap.size) (hG : ErrT W) (hc : W.cell? ⟨w.heap.size, 0, none⟩ = some (.int .i64 at_)) (hf : W.cell? ⟨b, 0, none⟩ = some (.int .i64 code)) :
 Leaves Tryz.prog Tryz.f69 tmps Rr [{ target := .fn (.func 103) #[.pointer (some ⟨w.heap.size, 0, none⟩)], args := #[] }] (.panicking (faultV b)) W := by
 refine leaves_cons (f := 103) (args := #[.pointer (some ⟨w.heap.size, 0, none⟩)]) (by simp) (by simp [go_sem]) ?_;refine (wrap_fault w.heap.size b at_ code W hG hc hf).mono ?_
 rintro e u' w2 ⟨rfl, aa, p, a, rfl, h1, h2⟩
 exact himp _ _ ⟨qy hb hb.size aa, p, a, [{ v := .iface 120 (.pointer (some ⟨b, 0, none⟩)), recovered := true }], rfl, rfl, h1, h2⟩
set_option maxHeartbeats 16000000 in
set_option maxRecDepth 100000 in
theorem grown_op (at_ op f1 f2 : Int) (s : ByteArray) (A A1 : Option Addr) (c n1 c1 : Nat) (vs : List Value) (ks : List Int) (R : Option Int) (w : World) (hG : ErrT w) (ho : 7 ≤ op) (hR : RowK w A vs ks) (hn : ks.length ≤ 100)
 (HA : Aside0 (∀ W, Below w.heap.size w W → Calls Tryz.prog 108 #[xj op f1 f2 s, .slice A ks.length c] W (KOut R W))) :
 Calls Tryz.prog 69 #[.int .i64 at_, xj op f1 f2 s, .slice A ks.length c, .slice A1 n1 c1] w (OpOut R w) := by
 have hmf : ∀ (fn : Fn) (first cap : Array Value) (w : World), (Instr.makeFunc fn first cap).run Tryz.prog w = .ok (.func fn first cap) w := fun _ _ _ _ => rfl
 have HF : Aside0 (GrB w ((w.alloc (.cells #[.int .i64 at_] 3)).alloc (.cells #[.int .i64 op, .int .i64 f1, .int .i64 f2, .string s] 86)) at_ op f1 f2 s) := Aside0.mk (grB_new w at_ op f1 f2 s);have HG := Aside0.mk hG;have HRR := Aside0.mk (fun (W : World) (h : Below w.heap.size w W) => reads_args (hR.below h) hn);have HN := Aside0.mk hn
 have e1 : (op == 1) = false := by simp; omega
 have e2 : (op == 2) = false := by simp; omega
 have e3 : (op == 3) = false := by simp; omega
 have e4 : (op == 4) = false := by simp; omega
 have e5 : (op == 5) = false := by simp; omega
 have e6 : (op == 6) = false := by simp; omega
 have hu := Tryz.underlying181;clear hG hR hn
 go_enter_defers Tryz.func69, Tryz.ntmps69
 go_upto_region 20 with (fail)
 generalize (w.alloc (Obj.cells #[Value.int IntKind.i64 at_] 3)).alloc (Obj.cells #[Value.int IntKind.i64 op, Value.int IntKind.i64 f1, Value.int IntKind.i64 f2, Value.string s] 86) = wg at *;have F := HF.out.to;have c0 := F.c0;have c1 := F.c1;have c2 := F.c2;have c3 := F.c3;clear F;replace HF : Aside0 (GrB w wg.drew at_ op f1 f2 s) := ⟨⟨qb HF.out.hb, HF.out.k0, HF.out.k1⟩⟩;refine Code.wp_mono (DiesOr.imp (ds := [{ target := .fn (.func 103) #[.pointer (some ⟨w.heap.size, 0, none⟩)], args := #[] }]) (PF := fun ch W => R = none ∧ ∃ b, ch = faultV b ∧ GrW w W at_ op f1 f2 s ∧ W.cell? ⟨b, 0, none⟩ = some (.int .i64 163)) ?_) ?_
 · rintro ch a W hd ⟨hk, b, rfl, F, hc⟩
   show Leaves _ _ a.tmps _ a.defers _ W;rw [hd]
   exact grown_diesR _ 163 at_ b w W _ (fun e w' h => .inr ⟨hk, h⟩) F.hb F.hs (qB F.hb HG.out) F.ca hc
 go_region_law (first
  | ((try go_simp); go_at_call 108; go_must (refine (HA.out _ HF.out.hb).mono ?_; rintro e w1 (⟨k2, hk, rfl, hb⟩ | ⟨hk, hb, b, rfl, hc⟩); rotate_left; (exact ⟨rfl, hk, b, rfl, (HF.out.below hb).to, hc⟩); have HF := Aside0.mk (HF.out.below hb); have HK := Aside0.mk hk; have F := HF.out.to; have c0 := F.c0; have c1 := F.c1; have c2 := F.c2; have c3 := F.c3; clear F hb hk))
  | (refine step_rows kV (Rr := kV.K w) (w0 := w) w.heap.size rfl (.const (.slice none 0 0)) (.tmp 73) 126 81 .nilIface 16 rfl Tryz.underlying126 (by kernel_rfl) rfl (by decide) (by decide) (.slice none 0 0) [] vs A ks.length c (fun _ => True) (fun _ => False) rfl rfl (Kd.R_nil _ _ _ _ _) (HRR.out _ HF.out.hb) (fun _ _ h => h) (fun _ h => h.elim) (fun _ _ => trivial) HF.out.hb HF.out.hb.size (by have := HN.out; simp only [List.length_nil]; omega) ?_; intro v1 w2 ab ac aa ae; obtain ⟨A5, c5, rfl⟩ := Kd.R_slice ab; have HF := Aside0.mk (⟨ac, xz HF.out.k0 aa (by intro h; cases h), xz HF.out.k1 aa (by intro h; cases h)⟩ : GrB w w2 at_ op f1 f2 s); have F := HF.out.to; have c0 := F.c0; have c1 := F.c1; have c2 := F.c2; have c3 := F.c3; clear F ab ac aa ae))
 all_goals (
  refine DiesOr.normal ?_;go_wp2;refine leaves_cons (f := 103) (args := #[.pointer (some ⟨w.heap.size, 0, none⟩)]) (by simp) (by simp [go_sem]) ?_;refine (wrap_idle _ _).mono ?_
  rintro e u' w5 ⟨rfl, rfl, rfl⟩
  refine ⟨.iface 178 (.pointer (some ⟨_, 0, none⟩)), by simp [results, Tryz.results69, go_sem], .inl ⟨k2, _, HK.out, rfl, .inr (.inr ⟨_, op, s, _, rfl, qL _ _⟩), q8 HF.out.hb _⟩⟩)
def ArK (op : Int) (s : ByteArray) (n : Nat) : Prop := (1 ≤ op ∧ op ≤ 6 ∧ n = 0) ∨ (7 ≤ op ∧ op ≤ 29 ∧ 1 ≤ n ∧ n ≤ 33 ∧ (op = 28 → n % 2 = 1) ∧ (op = 29 → s.toList = ([115, 117, 98, 115, 116, 114] : List UInt8) → 2 ≤ n))
def kindP (op : Int) (s : ByteArray) (ks : List Int) : Option Int :=
 if op = 7 ∨ (11 ≤ op ∧ op ≤ 15) then xu 2 2 ks
 else if op = 16 then xu 3 3 ks
 else if op = 8 ∨ op = 23 ∨ op = 24 then xu 1 1 ks
 else if op = 25 then xu 3 1 ks
 else if (17 ≤ op ∧ op ≤ 22) ∨ op = 26 ∨ op = 27 then (oneK 0 ks).map fun _ => 1
 else if op = 28 then zF ks []
 else if op = 29 then callK s ks
 else some 1
theorem inAll_num {op : Int} (h : op = 7 ∨ (11 ≤ op ∧ op ≤ 15)) : vq op 2 2 := by
 have : op = 7 ∨ op = 11 ∨ op = 12 ∨ op = 13 ∨ op = 14 ∨ op = 15 := by omega
 rcases this with rfl | rfl | rfl | rfl | rfl | rfl <;> simp [vq]
theorem inOne_of {op : Int} (h : (17 ≤ op ∧ op ≤ 22) ∨ op = 26 ∨ op = 27) : inOne op := by
 have : op = 17 ∨ op = 18 ∨ op = 19 ∨ op = 20 ∨ op = 21 ∨ op = 22 ∨ op = 26 ∨ op = 27 := by omega
 exact this
theorem kind_all (op want give f1 f2 : Int) (s : ByteArray) (A : Option Addr) (c : Nat) (vs : List Value) (ks : List Int) (w : World) (h : vq op want give) (hR : RowK w A vs ks) (hn : ks.length ≤ 100) :
 Calls Tryz.prog 108 #[xj op f1 f2 s, .slice A ks.length c] w (KOut (xu want give ks) w) := by
 have hb := q8 (Below.refl w.heap.size w) (.cells #[.int .i64 op, .int .i64 f1, .int .i64 f2, .string s] 86);unfold xu;obtain ⟨B, hB⟩ : ∃ B, ks.all (fitK want) = B := ⟨_, rfl⟩;have hA := vC (want := want) (c := c) (hR.below hb) hn B hB;rw [hB]
 cases B with
 | true =>
  rw [if_pos rfl]
  exact (kind_all_ok op want give f1 f2 s A _ c w h ⟨hA.mono (by
   rintro e w' (⟨_, h1, h2⟩ | ⟨h1, _⟩)
   · exact ⟨h1, qy hb hb.size h2⟩
   · cases h1)⟩).mono (fun e w' h => .inl ⟨_, rfl, h.1, h.2⟩)
 | false =>
  rw [if_neg (by decide)]
  exact (kind_all_no op want give f1 f2 s A _ c w h ⟨hA.mono (by
   rintro e w' (⟨h1, _⟩ | ⟨_, h1⟩)
   · cases h1
   · exact xm.from hb h1)⟩).mono (fun e w' h => .inr ⟨rfl, h⟩)
theorem kind_one (op f1 f2 : Int) (s : ByteArray) (A : Option Addr) (c : Nat) (vs : List Value) (ks : List Int) (w : World) (h : inOne op) (hR : RowK w A vs ks) (hn : ks.length ≤ 100) :
 Calls Tryz.prog 108 #[xj op f1 f2 s, .slice A ks.length c] w (KOut ((oneK 0 ks).map fun _ => 1) w) := by
 have hb := q8 (Below.refl w.heap.size w) (.cells #[.int .i64 op, .int .i64 f1, .int .i64 f2, .string s] 86);have hA := one_calls A c vs ks _ (hR.below hb) hn;generalize oneK 0 ks = R at *
 cases R with
 | some k =>
  exact (kind_one_ok op k f1 f2 s A _ c w h ⟨hA.mono (by
   rintro e w' (⟨k2, h0, h1, h2⟩ | ⟨h1, _⟩)
   · injection h0 with h0; subst h0; exact ⟨h1, qy hb hb.size h2⟩
   · cases h1)⟩).mono (fun e w' h => .inl ⟨_, rfl, h.1, h.2⟩)
 | none =>
  exact (kind_one_no op f1 f2 s A _ c w h ⟨hA.mono (by
   rintro e w' (⟨k2, h1, _⟩ | ⟨_, h1⟩)
   · cases h1
   · exact xm.from hb h1)⟩).mono (fun e w' h => .inr ⟨rfl, h⟩)
theorem kindOf_calls (op f1 f2 : Int) (s : ByteArray) (A : Option Addr) (c : Nat) (vs : List Value) (ks : List Int) (w : World) (hR : RowK w A vs ks) (ha : ArK op s ks.length) (h7 : 7 ≤ op) (hc : ks.length ≤ c) :
 Calls Tryz.prog 108 #[xj op f1 f2 s, .slice A ks.length c] w (KOut (kindP op s ks) w) := by
 rcases ha with ha | ⟨_, ak, h1, al, hodd, hsub⟩
 · omega
 have hn : ks.length ≤ 100 := by omega
 unfold kindP
 by_cases a1 : op = 7 ∨ (11 ≤ op ∧ op ≤ 15)
 · rw [if_pos a1]; exact kind_all op 2 2 f1 f2 s A c vs ks w (inAll_num a1) hR hn
 rw [if_neg a1]
 by_cases a2 : op = 16
 · rw [if_pos a2]; exact kind_all op 3 3 f1 f2 s A c vs ks w (by simp [vq, a2]) hR hn
 rw [if_neg a2]
 by_cases a3 : op = 8 ∨ op = 23 ∨ op = 24
 · rw [if_pos a3]; exact kind_all op 1 1 f1 f2 s A c vs ks w (by rcases a3 with rfl | rfl | rfl <;> simp [vq]) hR hn
 rw [if_neg a3]
 by_cases a4 : op = 25
 · rw [if_pos a4]; exact kind_all op 3 1 f1 f2 s A c vs ks w (by simp [vq, a4]) hR hn
 rw [if_neg a4]
 by_cases a5 : (17 ≤ op ∧ op ≤ 22) ∨ op = 26 ∨ op = 27
 · rw [if_pos a5]; exact kind_one op f1 f2 s A c vs ks w (inOne_of a5) hR hn
 rw [if_neg a5]
 by_cases a6 : op = 28
 · rw [if_pos a6]; subst a6; exact kind_case f1 f2 s A c (ks.length / 2) vs ks w hR hn (by have := hodd rfl; omega)
 rw [if_neg a6]
 by_cases a7 : op = 29
 · rw [if_pos a7]; subst a7
   have hb := q8 (Below.refl w.heap.size w) (.cells #[.int .i64 29, .int .i64 f1, .int .i64 f2, .string s] 86)
   exact kind_call f1 f2 s A _ c w _ ⟨(callK_calls s A c vs ks _ (hR.below hb) hn (hsub rfl) hc).mono (by
    rintro e w' (⟨k, h0, h1, h2⟩ | ⟨h0, h1⟩)
    · exact .inl ⟨k, h0, h1, qy hb hb.size h2⟩
    · exact .inr ⟨h0, xm.from hb h1⟩)⟩
 rw [if_neg a7]
 exact (kind_null op f1 f2 s A _ c w (by omega)).mono (fun e w' h => .inl ⟨_, rfl, h.1, h.2⟩)
def vS (op : Int) (s : ByteArray) (cols : List S93) (ks : List Int) : Int × Int :=
 if op ≤ 6 then xI op s cols else match kindP op s ks with
 | some k => (k, 0)
 | none => (0, 163)
theorem grown_all (at_ op f1 f2 : Int) (s : ByteArray) (A A1 : Option Addr) (c n1 c1 : Nat) (vs : List Value) (ks : List Int) (cols : List S93) (w : World) (hG : ErrT w) (hR : RowK w A vs ks) (ha : ArK op s ks.length) (hc : ks.length ≤ c) (hC : Kd.C k93 w A1 n1 cols) (ac : n1 ≤ 1000000000) :
 Calls Tryz.prog 69 #[.int .i64 at_, xj op f1 f2 s, .slice A ks.length c, .slice A1 n1 c1] w (GrOut (vS op s cols ks) w) := by
 by_cases h6 : op ≤ 6
 · have h1 : 1 ≤ op := by rcases ha with h | h <;> omega
   unfold vS;rw [if_pos h6]
   have hlit : ∀ k i t, ((op = 1 ∧ k = 2 ∧ i = f2 ∧ t = ⟨#[]⟩) ∨ (op = 2 ∧ k = 3 ∧ i = 0 ∧ t = s) ∨ (op = 3 ∧ k = 0 ∧ i = 0 ∧ t = ⟨#[]⟩) ∨ (op = 4 ∧ k = 1 ∧ i = 1 ∧ t = ⟨#[]⟩) ∨ (op = 5 ∧ k = 1 ∧ i = 0 ∧ t = ⟨#[]⟩)) → xI op s cols = (k, 0) →
    Calls Tryz.prog 69 #[.int .i64 at_, xj op f1 f2 s, .slice A ks.length c, .slice A1 n1 c1] w (GrOut (xI op s cols) w) := fun k i t h hl => by
    rw [hl]
    exact (grown_lit at_ op f1 f2 k i s t A A1 _ c n1 c1 w h).mono (fun e w' h => .inl ⟨rfl, _, h.1, .inl ⟨_, _, rfl⟩, h.2⟩)
   by_cases a1 : op = 1
   · exact hlit 2 f2 ⟨#[]⟩ (by simp [a1]) (by unfold xI; simp [a1])
   by_cases a2 : op = 2
   · exact hlit 3 0 s (by simp [a2]) (by unfold xI; simp [a2])
   by_cases a3 : op = 3
   · exact hlit 0 0 ⟨#[]⟩ (by simp [a3]) (by unfold xI; simp [a3])
   by_cases a4 : op = 4
   · exact hlit 1 1 ⟨#[]⟩ (by simp [a4]) (by unfold xI; simp [a4])
   by_cases a5 : op = 5
   · exact hlit 1 0 ⟨#[]⟩ (by simp [a5]) (by unfold xI; simp [a5])
   have a6 : op = 6 := by omega
   subst a6
   have hA : ∀ W, Below w.heap.size w W → Calls Tryz.prog 39 #[.slice A1 n1 c1, .string s] W (RetB (.int .i64 (zj s 0 cols)) W) := fun W hW => column_calls s A1 n1 c1 cols W (Kd.C_below hC hW) ac
   have hl : xI 6 s cols = if zj s 0 cols < 0 then (0, 162) else if typeB (zr cols (zj s 0 cols)).f1 = true then ((zr cols (zj s 0 cols)).f1, 0) else (0, 163) := by
    unfold xI;rw [if_neg (by decide), if_neg (by decide), if_neg (by decide), if_neg (by decide), if_neg (by decide)]
   rw [hl]
   rcases findFrom_lt s cols 0 with hf | ⟨ao, ak⟩
   · rw [if_pos (by omega)]
     exact (grown_col0 at_ f1 f2 s A A1 _ c n1 c1 _ w hG (by omega) ⟨hA⟩).mono (fun e w' h => .inr ⟨(by decide : ¬ (162 : Int) = 0), h⟩)
   · rw [if_neg (by omega)]
     obtain ⟨i, hi⟩ : ∃ i : Nat, zj s 0 cols = (i : Int) := ⟨(zj s 0 cols).toNat, by omega⟩;rw [hi] at hA ak ⊢
     have hin : i < n1 := by have := hC.1; omega
     by_cases ht : typeB (zr cols i).f1 = true
     · rw [if_pos ht]
       exact (grown_col2 at_ f1 f2 s A A1 _ c n1 c1 i cols w hC hin ac ht ⟨hA⟩).mono (fun e w' h => .inl ⟨rfl, _, h.1, .inr (.inl ⟨_, rfl⟩), h.2⟩)
     · rw [if_neg ht]
       exact (grown_col1 at_ f1 f2 s A A1 _ c n1 c1 i cols w hG hC hin ac (by simpa using ht) ⟨hA⟩).mono (fun e w' h => .inr ⟨(by decide : ¬ (163 : Int) = 0), h⟩)
 · unfold vS
   rw [if_neg h6]
   have hn : ks.length ≤ 100 := by rcases ha with h | h <;> omega
   refine (grown_op at_ op f1 f2 s A A1 c n1 c1 vs ks (kindP op s ks) w hG (by omega) hR hn ⟨fun W hW => kindOf_calls op f1 f2 s A c vs ks W (hR.below hW) ha (by omega) hc⟩).mono ?_;generalize kindP op s ks = R
   rintro e w' (⟨k, v, rfl, h1, h2, h3⟩ | ⟨rfl, h⟩)
   · exact .inl ⟨rfl, v, h1, h2, h3⟩
   · exact .inr ⟨(by decide : ¬ (163 : Int) = 0), h⟩
theorem cut_three (A : Option Addr) (n c q : Nat) (hq : q ≤ n) (hc : n ≤ c) : ∀ W : World, (Instr.slice 126 (.slice A n c) (some (.int .i64 (q : Int))) (some (.int .i64 (n : Int))) (some (.int .i64 (n : Int)))).run Tryz.prog W = .ok (.slice (if n = q then A else A.map (·.add q)) (n - q) (n - q)) W := by
 intro W;obtain ⟨it, hit, hsz⟩ := infoNode_ex;have hu := Tryz.underlying126
 have h1 : (0 : Int) ≤ (n : Int) ∧ (n : Int) ≤ (c : Int) := by omega
 have h2 : (0 : Int) ≤ (n : Int) ∧ (n : Int) ≤ (n : Int) := by omega
 have h3 : (0 : Int) ≤ (q : Int) ∧ (q : Int) ≤ (n : Int) := by omega
 simp [Instr.slice, Instr.sliceBounds, Instr.sliceBound, asIntOf, hu, go_sem, sizeOf, typeInfo, hit, hsz, hq, hc]
theorem cut_same (A : Option Addr) (n c q : Nat) (hq : q ≤ n) (hc : n ≤ c) : ∀ W : World, (Instr.slice 126 (.slice A n c) none (some (.int .i64 (q : Int))) (some (.int .i64 (q : Int)))).run Tryz.prog W = .ok (.slice A q q) W := by
 intro W;obtain ⟨it, hit, hsz⟩ := infoNode_ex;have hu := Tryz.underlying126
 have h1 : q ≤ c := by omega
 have ha : (A.map fun x => x.add 0) = A := by cases A <;> simp [Addr.add]
 simp [Instr.slice, Instr.sliceBounds, Instr.sliceBound, asIntOf, hu, go_sem, sizeOf, typeInfo, hit, hsz, h1, ha]
theorem rowK_own {W : World} {base n : Nat} {v : Value} {xs : List Value} {ks : List Int} (h : W.ownsRow base 81 1 v n xs) (hk : KsOf W xs ks) : ∃ A c, v = .slice A ks.length c ∧ ks.length ≤ c ∧ RowK W A xs ks := by
 obtain ⟨hl, h⟩ := h
 have hn : n = ks.length := by rw [← hk.1, hl, Nat.mul_one]
 subst hn
 rcases h with ⟨rfl, h0⟩ | ⟨g, cap, cur, rfl, hg, hh, hnc, hcm, hcs, ht⟩
 · have hx : xs = [] := List.eq_nil_of_length_eq_zero (by rw [hl, h0])
   subst hx;refine ⟨none, 0, by rw [h0], by omega, hk.1, fun i v hv => by simp at hv, hk.2⟩
 · refine ⟨_, _, rfl, hnc, hk.1, fun i v hv => ⟨_, rfl, ?_⟩, hk.2⟩
   rw [add_plain, qa hh i];rw [← ht, List.getElem?_take] at hv
   split at hv
   · rw [← Array.getElem?_toList]; exact hv
   · cases hv
theorem RowK.take {W : World} {A : Option Addr} {vs : List Value} {ks : List Int} (h : RowK W A vs ks) (q : Nat) : RowK W A (vs.take q) (ks.take q) :=
 ⟨by rw [List.length_take, List.length_take, h.len], (fun i v hv => by
  rw [List.getElem?_take] at hv
  by_cases hi : i < q
  · rw [if_pos hi] at hv; exact h.cells i v hv
  · rw [if_neg hi] at hv; exact absurd hv (by simp)), (fun i v k hv hk => by
  rw [List.getElem?_take] at hv hk
  by_cases hi : i < q
  · rw [if_pos hi] at hv hk; exact h.kinds i v k hv hk
  · rw [if_neg hi] at hv; exact absurd hv (by simp))⟩
theorem RowK.cut {W : World} {A : Option Addr} {vs : List Value} {ks : List Int} (h : RowK W A vs ks) (q : Nat) (hq : q ≤ ks.length) : RowK W (if ks.length = q then A else A.map (·.add q)) (vs.drop q) (ks.drop q) := by
 have hnil : vs.drop q = [] ∨ ∃ ad, A = some ad := by
  cases A with
  | some ad => exact .inr ⟨ad, rfl⟩
  | none =>
   left
   cases vs with
   | nil => simp
   | cons v vs =>
    obtain ⟨ad, ha, _⟩ := h.cells 0 v rfl
    cases ha
 by_cases hs : ks.length = q
 · rw [if_pos hs]
   have h1 : vs.drop q = [] := List.drop_of_length_le (by rw [h.len]; omega);have h2 : ks.drop q = [] := List.drop_of_length_le (by omega);rw [h1, h2]
   exact ⟨rfl, fun i v hv => by simp at hv, fun i v k hv => by simp at hv⟩
 · rw [if_neg hs]
   rcases hnil with h1 | ⟨ad, rfl⟩
   · exfalso
     have h2 : (vs.drop q).length = 0 := by rw [h1]; rfl
     rw [List.length_drop, h.len] at h2
     omega
   · exact h.drop q
theorem below_none {W W' : World} (hg : W.grownBy W' none) : Below W.heap.size W W' := ⟨hg.os, hg.tape, hg.output, hg.size, fun k hk => hg.block k hk (by simp)⟩
def stepT (cols : List S93) (st : List Int) (x : S86) : Int × List Int :=
 ((vS x.f0 x.f3 cols (st.drop (st.length - x.f1.toNat))).2, st.take (st.length - x.f1.toNat) ++ [(vS x.f0 x.f3 cols (st.drop (st.length - x.f1.toNat))).1])
def runT (cols : List S93) : List Int → List S86 → Int × List Int
 | st, [] => (0, st)
 | st, x :: r => if (stepT cols st x).1 = 0 then runT cols (stepT cols st x).2 r else ((stepT cols st x).1, [])
def okLen : Nat → List S86 → Prop
 | n, [] => n = 1
 | n, x :: r => 0 ≤ x.f1 ∧ x.f1 ≤ (n : Int) ∧ ArK x.f0 x.f3 x.f1.toNat ∧ okLen (n - x.f1.toNat + 1) r
theorem runT_at (cols : List S93) (st : List Int) (xs : List S86) (k : Nat) (hk : k < xs.length) : runT cols st (xs.drop k) = if (stepT cols st xs[k]).1 = 0 then runT cols (stepT cols st xs[k]).2 (xs.drop (k + 1)) else ((stepT cols st xs[k]).1, []) := by
 rw [List.drop_eq_getElem_cons hk]; rfl
theorem okLen_at (n : Nat) (xs : List S86) (k : Nat) (hk : k < xs.length) (h : okLen n (xs.drop k)) : 0 ≤ xs[k].f1 ∧ xs[k].f1 ≤ (n : Int) ∧ ArK xs[k].f0 xs[k].f3 xs[k].f1.toNat ∧ okLen (n - xs[k].f1.toNat + 1) (xs.drop (k + 1)) := by
 rw [List.drop_eq_getElem_cons hk] at h; exact h
def TreeOut (R : Int × List Int) (w : World) (e : Ending) (w' : World) : Prop := (R.1 = 0 ∧ ∃ v k, R.2 = [k] ∧ e = .returned v ∧ zQ w' v k ∧ Below w.heap.size w w') ∨ (¬ R.1 = 0 ∧ vR R.1 w e w')
set_option maxHeartbeats 4000000 in
set_option maxRecDepth 100000 in
theorem tree_calls (A A1 : Option Addr) (n c n1 c1 : Nat) (xs : List S86) (cols : List S93) (w : World) (hC : Kd.C k86 w A n xs) (hD : Kd.C k93 w A1 n1 cols) (hn : n ≤ 1000000) (ax : n1 ≤ 1000000000) (hG : ErrT w) (hok : okLen 0 xs) :
 Calls Tryz.prog 32 #[.slice A n c, .slice A1 n1 c1] w (TreeOut (runT cols [] xs) w) := by
 have HC := Aside0.mk hC;have HN := Aside0.mk hC.1;have HD := Aside0.mk hD;have HG := Aside0.mk hG;have HOK := Aside0.mk hok;clear hC hD hG hok
 go_enter Tryz.func32, Tryz.ntmps32
 go_wp2
 go_loopw [5, 12] (fun v5 ah wr => ∃ (k : Nat) (B : Option Addr) (b : Nat) (vs : List Value) (ks : List Int), k ≤ n ∧ ah = .int .i64 (k : Int) ∧ v5 = .slice B ks.length b ∧ ks.length ≤ b ∧ ks.length ≤ k ∧ Aside0 (runT cols [] xs = runT cols ks (xs.drop k)) ∧ Aside0 (okLen ks.length (xs.drop k)) ∧ Aside0 (RowK wr B vs ks) ∧ Aside0 (Below w.heap.size w wr)) (fun _ ah _ => n - (intOf ah).toNat)
 case atStart => exact ⟨0, none, 0, [], [], Nat.zero_le _, rfl, rfl, Nat.le_refl _, Nat.le_refl _, ⟨rfl⟩, HOK, ⟨⟨rfl, fun i v hv => by simp at hv, fun i v k hv => by simp at hv⟩⟩, ⟨Below.refl _ _⟩⟩
 case round =>
  clear HOK;obtain ⟨k, B, b, vs, ks, hk, rfl, rfl, hb, hkk, HE, HL, HR, HB⟩ := hrel
  by_cases hlt : k < n
  · have d1 : decide ((k : Int) < (n : Int)) = true := decide_eq_true (by omega)
    have d9 : (k : Int) < (n : Int) := by omega
    have hlx : k < xs.length := by rw [HN.out]; exact hlt
    obtain ⟨ad, rfl, g0, g1, g2, g3⟩ := xZ (Kd.C_below HC.out HB.out) (k : Int) (by omega) d9;have ek : ((k : Int)).toNat = k := Int.toNat_natCast k;rw [show qi xs (k : Int) = xs[k] by simp [qi, hlx], ek] at g0 g1 g2 g3;obtain ⟨l1, l2, l3, l4⟩ := okLen_at _ xs k hlx HL.out;have HX := Aside0.mk (HE.out.trans (runT_at cols ks xs k hlx));generalize xs[k] = x at *;obtain ⟨op, f1, f2, f3⟩ := x
    dsimp only at g0 g1 g2 g3 l1 l2 l3 l4
    obtain ⟨m, rfl⟩ : ∃ m : Nat, f1 = (m : Int) := ⟨f1.toNat, by omega⟩;rw [Int.toNat_natCast] at l3 l4;have hq : ks.length - m ≤ ks.length := Nat.sub_le _ _;obtain ⟨q, hqq⟩ : ∃ q, q = ks.length - m := ⟨_, rfl⟩;unfold stepT at HX
    dsimp only at HX
    rw [Int.toNat_natCast, ← hqq] at HX;rw [← hqq] at l4 hq
    have hqi : (ks.length : Int) - (m : Int) = (q : Int) := by omega
    have hdl : (ks.drop q).length = m := by rw [List.length_drop]; omega
    have ewq : wrap64 (q : Int) = (q : Int) := wrapK (by omega) (by omega);have hcut := cut_three B ks.length b q hq hb;have hsame := cut_same B ks.length b q hq hb;have K7 := qL wr (.cells #[.int .i64 op, .int .i64 (m : Int), .int .i64 f2, .string f3] 86);have ab := Aside0.mk (q8 (Below.refl wr.heap.size wr) (.cells #[.int .i64 op, .int .i64 (m : Int), .int .i64 f2, .string f3] 86))
    have hqn : ks.length - q = m := by omega
    rw [hqn] at hcut
    obtain ⟨B2, aj⟩ : ∃ B2, B2 = if ks.length = q then B else B.map (·.add q) := ⟨_, rfl⟩
    have HGR := Aside0.mk (fun (W : World) (hW : Below wr.heap.size wr W) => grown_all (k : Int) op (m : Int) f2 f3 (if ks.length = q then B else B.map (·.add q)) A1 m n1 c1 (vs.drop q) (ks.drop q) cols W (qB (qy HB.out HB.out.size hW) HG.out) ((HR.out.cut q hq).below hW) (by rw [hdl]; exact l3) (by omega) (Kd.C_below HD.out (qy HB.out HB.out.size hW)) ax);rw [hdl, ← aj] at HGR;rw [← aj] at hcut;clear aj;have HQ := Aside0.mk (And.intro hqq (And.intro hq (And.intro hkk l4)));obtain ⟨G, hGG⟩ : ∃ G, G = vS op f3 cols (ks.drop q) := ⟨_, rfl⟩;rw [← hGG] at HX HGR;clear ek l1 l2 l3 l4 hdl hqn hqq hq hkk hGG HE HL
    by_cases hg : G.2 = 0
    · have HT : Aside0 (∀ (W : World), Below wr.heap.size wr W → Calls Tryz.prog 69 #[.int .i64 (k : Int), xj op (m : Int) f2 f3, .slice B2 m m, .slice A1 n1 c1] W fun e w' => ∃ T u, e = .returned (.iface T u) ∧ zQ w' (.iface T u) G.1 ∧ Below W.heap.size W w') := ⟨fun W hW => (HGR.out W hW).mono (by
       rintro e w' (⟨_, v, rfl, h1, h2⟩ | ⟨h1, _⟩)
       · obtain ⟨T, u, rfl⟩ := h1.iface
         exact ⟨T, u, rfl, h1.has, h2⟩
       · exact absurd hg h1)⟩
      rw [if_pos hg] at HX;clear HGR hg
      go_upto_region 6 with (fail)
      generalize wr.alloc (Obj.cells #[Value.int IntKind.i64 op, Value.int IntKind.i64 (m : Int), Value.int IntKind.i64 f2, Value.string f3] 86) = wx at *;have a3 := (qa K7 0).trans rfl;have a4 := (qa K7 1).trans rfl;have a5 := (qa K7 2).trans rfl;have a6 := (qa K7 3).trans rfl
      go_region_law (first
       | ((try go_simp); go_at_call 69; go_must (refine (HT.out _ (qb ab.out)).mono ?_; rintro e w1 ⟨T, u, rfl, hk, ae⟩; have HK := Aside0.mk hk; have ak := Aside0.mk (qy (qb ab.out) (qb ab.out).size ae); clear hk ae)))
      all_goals (
       have hrow := (HR.out.below ak.out).take q
       have htl : (ks.take q).length = q := by rw [List.length_take]; have := HQ.out.2.1; omega
       have hvl : (vs.take q).length = q * 1 := by rw [hrow.len, htl, Nat.mul_one]
       have an : B = none → q = 0 ∧ q = 0 := fun hB => by
        have : q = 0 := by
         rcases Nat.eq_zero_or_pos q with h | h
         · exact h
         · obtain ⟨a7, h2, _⟩ := hrow.cells 0 _ (List.getElem?_eq_getElem (show 0 < (vs.take q).length by omega))
           rw [hB] at h2; cases h2
        exact ⟨this, this⟩
       have hcells : ∀ b2, B = some b2 → ∀ j v, (vs.take q)[j]? = some v → (w1.alloc (.cells #[.iface T u] 81)).cell? (b2.add j) = some v := fun b2 hB j v hv => by
        obtain ⟨a7, h2, h3⟩ := hrow.cells j v hv;rw [hB] at h2
        injection h2 with h2
        subst h2
        exact qB (q8 (Below.refl _ _) _) h3
       have hone : ∀ (j : Nat) (v : Value), ([.iface T u] : List Value)[j]? = some v → (w1.alloc (.cells #[.iface T u] 81)).cell? (Addr.add ⟨w1.heap.size, 0, none⟩ j) = some v := fun j v hv => by
        cases j with
        | zero => injection hv with hv; subst hv; rw [Addr.add_zero']; exact (qa (qL w1 _) 0).trans rfl
        | succ j => simp at hv
       have HKS : Aside0 (KsOf w1 (vs.take q ++ [.iface T u]) (ks.take q ++ [G.1])) := ⟨KsOf.snoc ⟨hrow.len, hrow.kinds⟩ HK.out⟩;have HH := Aside0.mk (And.intro hvl (And.intro an (And.intro hcells (And.intro hone htl))));obtain ⟨i0, hi, a8, a9, ba⟩ := info_parts (show (Tryz.prog.info? 81).map (fun i => (i.zero, i.size, i.bytes)) = some (some .nilIface, 1, 16) by kernel_rfl);clear hrow htl hvl an hcells hone
       go_wp2_with (at_builtin; go_must (refine wpList_append_grows _ rfl (.tmp 36) (.tmp 38) 126 rfl 81 i0 .nilIface 1 16 Tryz.underlying126 hi a8 a9 ba rfl (by decide) B q q (vs.take q) rfl HH.out.2.1 HH.out.1 HH.out.2.2.1 ⟨w1.heap.size, 0, none⟩ 1 1 [.iface T u] rfl rfl HH.out.2.2.2.1 (by intro y hy; obtain rfl := List.mem_singleton.1 hy; rfl) (Nat.lt_succ_self q) (by have := HQ.out; unfold maxLen; omega) (by have := HQ.out; omega) ?_; intro v' w4 hown ao; have HOWN := Aside0.mk hown; have bb := Aside0.mk ao; clear hown ao))
       have hbl : Below w1.heap.size w1 w4 := qy (q8 (Below.refl _ _) _) (q8 (Below.refl _ _) _).size (below_none bb.out);obtain ⟨B4, b4, rfl, bc, bd⟩ := rowK_own HOWN.out (HKS.out.below hbl)
       have hlen : (ks.take q ++ [G.1]).length = q + 1 := by rw [List.length_append, HH.out.2.2.2.2]; rfl
       go_roundw
       case rel => exact ⟨k + 1, B4, b4, _, ks.take q ++ [G.1], by omega, by go_num, rfl, bc, by rw [hlen]; have := HQ.out; omega, HX, ⟨by rw [hlen]; exact HQ.out.2.2.2⟩, ⟨bd⟩, ⟨qy (qy HB.out HB.out.size ak.out) (qy HB.out HB.out.size ak.out).size hbl⟩⟩
       case measure => simp [intOf]; omega)
    · have HT : Aside0 (∀ (W : World), Below wr.heap.size wr W → Calls Tryz.prog 69 #[.int .i64 (k : Int), xj op (m : Int) f2 f3, .slice B2 m m, .slice A1 n1 c1] W (vR G.2 W)) := ⟨fun W hW => (HGR.out W hW).mono (by
       rintro e w' (⟨h1, _⟩ | ⟨_, h1⟩)
       · exact absurd h1 hg
       · exact h1)⟩
      rw [if_neg hg] at HX;have HGN := Aside0.mk hg;clear HGR hg
      go_upto_region 6 with (fail)
      generalize wr.alloc (Obj.cells #[Value.int IntKind.i64 op, Value.int IntKind.i64 (m : Int), Value.int IntKind.i64 f2, Value.string f3] 86) = wx at *;have a3 := (qa K7 0).trans rfl;have a4 := (qa K7 1).trans rfl;have a5 := (qa K7 2).trans rfl;have a6 := (qa K7 3).trans rfl
      first | go_region_dies | fail
      all_goals (
       refine (HT.out _ (qb ab.out)).mono ?_
       rintro e w1 ⟨ae, p, a, older, rfl, h1, h2, h3⟩
       exact ⟨rfl, .inr ⟨by rw [HX.out]; exact HGN.out, qy (qy HB.out HB.out.size (qb ab.out)) (qy HB.out HB.out.size (qb ab.out)).size ae, p, a, older, rfl, h1, h2, by rw [HX.out]; exact h3⟩⟩)
  · have d1 : decide ((k : Int) < (n : Int)) = false := decide_eq_false (by omega)
    obtain rfl : k = n := by omega
    have hdr : xs.drop k = [] := List.drop_of_length_le (by rw [HN.out]; exact Nat.le_refl _)
    have h1 : ks.length = 1 := by have := HL.out; rw [hdr] at this; exact this
    have hE : runT cols [] xs = (0, ks) := by rw [HE.out, hdr]; rfl
    obtain ⟨k0, rfl⟩ : ∃ k0, ks = [k0] := by
     cases ks with
     | nil => simp at h1
     | cons a l =>
      cases l with
      | nil => exact ⟨a, rfl⟩
      | cons b l => simp at h1
    have al : 0 < vs.length := by rw [HR.out.len]; exact Nat.lt_succ_self 0
    obtain ⟨ad, rfl, bf⟩ := HR.out.cells 0 _ (List.getElem?_eq_getElem al);have ap := HR.out.kinds 0 _ _ (List.getElem?_eq_getElem al) rfl;rw [Addr.add_zero'] at bf;generalize vs[0] = v0 at *;have HK := Aside0.mk ap;have au := Aside0.mk hE;clear ap hE hdr al h1;go_wp2
    go_ret
    exact .inl ⟨by rw [au.out], v0, k0, by rw [au.out], rfl, HK.out, HB.out⟩
end Go.Proofs.YtfmgbgkcmmpcfaaGreatDoor.PTk

