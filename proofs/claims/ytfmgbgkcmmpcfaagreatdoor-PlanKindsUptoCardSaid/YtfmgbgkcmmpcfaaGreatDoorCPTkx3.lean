import Derived.Test.YtfmgbgkcmmpcfaaGreatDoorCPTkx0
import Derived.Test.YtfmgbgkcmmpcfaaGreatDoorCPTkx1
import Derived.Test.YtfmgbgkcmmpcfaaGreatDoorCPTkx2
namespace Go.Proofs.YtfmgbgkcmmpcfaaGreatDoor.PTk
open Go.RowKit Go.Proofs.YtfmgbgkcmmpcfaaGreatDoorW.PrintWords Go.Proofs.YtfmgbgkcmmpcfaaGreatDoorW.PrintLast Go.Proofs.YtfmgbgkcmmpcfaaGreatDoorW.PrintMore
attribute [local go_sem] zp zC
set_option linter.unusedVariables false
set_option linter.unusedSimpArgs false
theorem ta_atom (u : Value) (w : World) : (Instr.typeAssert (.iface 260 u) 227 260 true).run Tryz.prog w = .ok (.tuple #[u, .bool true]) w := by kernel_rfl
theorem ta_ahead_atom (u : Value) (w : World) : (Instr.typeAssert (.iface 266 u) 227 260 true).run Tryz.prog w = .ok (.tuple #[.string ⟨#[]⟩, .bool false]) w := by kernel_rfl
theorem ta_binary_atom (u : Value) (w : World) : (Instr.typeAssert (.iface 271 u) 227 260 true).run Tryz.prog w = .ok (.tuple #[.string ⟨#[]⟩, .bool false]) w := by kernel_rfl
theorem ta_nullness_atom (u : Value) (w : World) : (Instr.typeAssert (.iface 268 u) 227 260 true).run Tryz.prog w = .ok (.tuple #[.string ⟨#[]⟩, .bool false]) w := by kernel_rfl
theorem ta_matched_atom (u : Value) (w : World) : (Instr.typeAssert (.iface 263 u) 227 260 true).run Tryz.prog w = .ok (.tuple #[.string ⟨#[]⟩, .bool false]) w := by kernel_rfl
theorem ta_called_atom (u : Value) (w : World) : (Instr.typeAssert (.iface 277 u) 227 260 true).run Tryz.prog w = .ok (.tuple #[.string ⟨#[]⟩, .bool false]) w := by kernel_rfl
theorem ta_choice_atom (u : Value) (w : World) : (Instr.typeAssert (.iface 273 u) 227 260 true).run Tryz.prog w = .ok (.tuple #[.string ⟨#[]⟩, .bool false]) w := by kernel_rfl
theorem ta_ahead (u : Value) (w : World) : (Instr.typeAssert (.iface 266 u) 227 266 true).run Tryz.prog w = .ok (.tuple #[u, .bool true]) w := by kernel_rfl
theorem ta_atom_ahead (u : Value) (w : World) : (Instr.typeAssert (.iface 260 u) 227 266 true).run Tryz.prog w = .ok (.tuple #[.agg #[.int .i64 0, .nilIface], .bool false]) w := by kernel_rfl
theorem ve (u : Value) (w : World) : (Instr.typeAssert (.iface 271 u) 227 266 true).run Tryz.prog w = .ok (.tuple #[.agg #[.int .i64 0, .nilIface], .bool false]) w := by kernel_rfl
theorem vx (u : Value) (w : World) : (Instr.typeAssert (.iface 268 u) 227 266 true).run Tryz.prog w = .ok (.tuple #[.agg #[.int .i64 0, .nilIface], .bool false]) w := by kernel_rfl
theorem vH (u : Value) (w : World) : (Instr.typeAssert (.iface 263 u) 227 266 true).run Tryz.prog w = .ok (.tuple #[.agg #[.int .i64 0, .nilIface], .bool false]) w := by kernel_rfl
theorem ta_called_ahead (u : Value) (w : World) : (Instr.typeAssert (.iface 277 u) 227 266 true).run Tryz.prog w = .ok (.tuple #[.agg #[.int .i64 0, .nilIface], .bool false]) w := by kernel_rfl
theorem ta_choice_ahead (u : Value) (w : World) : (Instr.typeAssert (.iface 273 u) 227 266 true).run Tryz.prog w = .ok (.tuple #[.agg #[.int .i64 0, .nilIface], .bool false]) w := by kernel_rfl
theorem ta_binary (u : Value) (w : World) : (Instr.typeAssert (.iface 271 u) 227 271 true).run Tryz.prog w = .ok (.tuple #[u, .bool true]) w := by kernel_rfl
theorem ta_nullness_binary (u : Value) (w : World) : (Instr.typeAssert (.iface 268 u) 227 271 true).run Tryz.prog w = .ok (.tuple #[.agg #[.string ⟨#[]⟩, .int .i64 0, .nilIface, .nilIface], .bool false]) w := by kernel_rfl
theorem ta_matched_binary (u : Value) (w : World) : (Instr.typeAssert (.iface 263 u) 227 271 true).run Tryz.prog w = .ok (.tuple #[.agg #[.string ⟨#[]⟩, .int .i64 0, .nilIface, .nilIface], .bool false]) w := by kernel_rfl
theorem ta_called_binary (u : Value) (w : World) : (Instr.typeAssert (.iface 277 u) 227 271 true).run Tryz.prog w = .ok (.tuple #[.agg #[.string ⟨#[]⟩, .int .i64 0, .nilIface, .nilIface], .bool false]) w := by kernel_rfl
theorem ta_choice_binary (u : Value) (w : World) : (Instr.typeAssert (.iface 273 u) 227 271 true).run Tryz.prog w = .ok (.tuple #[.agg #[.string ⟨#[]⟩, .int .i64 0, .nilIface, .nilIface], .bool false]) w := by kernel_rfl
theorem ta_nullness (u : Value) (w : World) : (Instr.typeAssert (.iface 268 u) 227 268 true).run Tryz.prog w = .ok (.tuple #[u, .bool true]) w := by kernel_rfl
theorem ta_matched_nullness (u : Value) (w : World) : (Instr.typeAssert (.iface 263 u) 227 268 true).run Tryz.prog w = .ok (.tuple #[.agg #[.string ⟨#[]⟩, .nilIface], .bool false]) w := by kernel_rfl
theorem ta_called_nullness (u : Value) (w : World) : (Instr.typeAssert (.iface 277 u) 227 268 true).run Tryz.prog w = .ok (.tuple #[.agg #[.string ⟨#[]⟩, .nilIface], .bool false]) w := by kernel_rfl
theorem ta_choice_nullness (u : Value) (w : World) : (Instr.typeAssert (.iface 273 u) 227 268 true).run Tryz.prog w = .ok (.tuple #[.agg #[.string ⟨#[]⟩, .nilIface], .bool false]) w := by kernel_rfl
theorem ta_matched (u : Value) (w : World) : (Instr.typeAssert (.iface 263 u) 227 263 true).run Tryz.prog w = .ok (.tuple #[u, .bool true]) w := by kernel_rfl
theorem ta_atom_matched (u : Value) (w : World) : (Instr.typeAssert (.iface 260 u) 227 263 true).run Tryz.prog w = .ok (.tuple #[.agg #[.int .i64 0, .bool false, .slice none 0 0], .bool false]) w := by kernel_rfl
theorem ta_ahead_matched (u : Value) (w : World) : (Instr.typeAssert (.iface 266 u) 227 263 true).run Tryz.prog w = .ok (.tuple #[.agg #[.int .i64 0, .bool false, .slice none 0 0], .bool false]) w := by kernel_rfl
theorem ta_binary_matched (u : Value) (w : World) : (Instr.typeAssert (.iface 271 u) 227 263 true).run Tryz.prog w = .ok (.tuple #[.agg #[.int .i64 0, .bool false, .slice none 0 0], .bool false]) w := by kernel_rfl
theorem ta_nullness_matched (u : Value) (w : World) : (Instr.typeAssert (.iface 268 u) 227 263 true).run Tryz.prog w = .ok (.tuple #[.agg #[.int .i64 0, .bool false, .slice none 0 0], .bool false]) w := by kernel_rfl
theorem vy (u : Value) (w : World) : (Instr.typeAssert (.iface 277 u) 227 263 true).run Tryz.prog w = .ok (.tuple #[.agg #[.int .i64 0, .bool false, .slice none 0 0], .bool false]) w := by kernel_rfl
theorem vz (u : Value) (w : World) : (Instr.typeAssert (.iface 273 u) 227 263 true).run Tryz.prog w = .ok (.tuple #[.agg #[.int .i64 0, .bool false, .slice none 0 0], .bool false]) w := by kernel_rfl
theorem ta_called (u : Value) (w : World) : (Instr.typeAssert (.iface 277 u) 227 277 true).run Tryz.prog w = .ok (.tuple #[u, .bool true]) w := by kernel_rfl
theorem ta_choice_called (u : Value) (w : World) : (Instr.typeAssert (.iface 273 u) 227 277 true).run Tryz.prog w = .ok (.tuple #[.agg #[.string ⟨#[]⟩, .slice none 0 0], .bool false]) w := by kernel_rfl
theorem ta_choice (u : Value) (w : World) : (Instr.typeAssert (.iface 273 u) 227 273 true).run Tryz.prog w = .ok (.tuple #[u, .bool true]) w := by kernel_rfl
theorem zL {w : World} {v : Value} {t : Tr} (h : IsT w v t) : ∃ T u, v = .iface T u := by
 cases h <;> exact ⟨_, _, rfl⟩
inductive NegForm (v : Value) (op : Int) : Prop
 | yes (T2 : Nat) (u2 : Value) (hv : v = .iface 266 (.agg #[.int .i64 7, .iface T2 u2])) (h : op = 7)
 | not (T2 : Nat) (u2 : Value) (hv : v = .iface 266 (.agg #[.int .i64 8, .iface T2 u2])) (h : op ≠ 7)
 | other (T : Nat) (u : Value) (hv : v = .iface T u) (hT : T = 260 ∨ T = 263 ∨ T = 268 ∨ T = 271 ∨ T = 273 ∨ T = 277) (h : op ≠ 7)
theorem neg_form {w : World} {v : Value} {t : Tr} (h : IsT w v t) : NegForm v t.f0.f0 := by
 cases h with
 | leaf x h1 h6 => exact .other _ _ rfl (by decide) (by show x.f0 ≠ 7; omega)
 | ahead x t v hx h =>
  obtain ⟨T2, u2, rfl⟩ := zL h
  rcases hx with hx | ⟨hx, _⟩
  · exact .yes T2 u2 (by rw [hx]) hx
  · exact .not T2 u2 (by rw [hx]) (by show x.f0 ≠ 7; omega)
 | sugar x t o sl hx ht h => exact .other _ _ rfl (by decide) (by show x.f0 ≠ 7; omega)
 | null x t v hx h => exact .other _ _ rfl (by decide) (by show x.f0 ≠ 7; omega)
 | binary x a b va vb h1 h2 ha hb => exact .other _ _ rfl (by decide) (by show x.f0 ≠ 7; omega)
 | matched x ks vs A c hx hn hc hl hr h => have := (xM _).1 hx; exact .other _ _ rfl (by decide) (by show x.f0 ≠ 7; omega)
 | choice x ks vs A c hx hn hc hl hr h => exact .other _ _ rfl (by decide) (by show x.f0 ≠ 7; omega)
 | called x ks vs A c hx hn hc hl hr h => exact .other _ _ rfl (by decide) (by show x.f0 ≠ 7; omega)
set_option maxHeartbeats 4000000 in
set_option maxRecDepth 100000 in
theorem ahead_not (W0 w : World) (b : Nat) (l : List UInt8) (d m : Int) (v : Value) (t : Tr) (hT : zH W0 v t) (h : PW W0 b l d m w) (hf : Fits l d m ([78, 79, 84, 32] ++ opd 3 t (shw t).1) (opdD 3 t (dep t))) :
 Calls Tryz.prog 186 #[.pointer (some ⟨b, 0, none⟩), .agg #[.int .i64 8, v]] w fun e w' => e = .returned (.tuple #[]) ∧ PO W0 b (l ++ ([78, 79, 84, 32] ++ opd 3 t (shw t).1)) d (max m (d + opdD 3 t (dep t))) w w' := by
 have HA := Aside0.mk ((PO.start h).below (q8 (Below.refl w.heap.size w) (.cells #[.int .i64 8, v] 266)));have HP := Aside0.mk (PO.start HA.out.ps);have HT := Aside0.mk hT;have HF := Aside0.mk hf;have K3 := Aside0.mk (qL w (.cells #[.int .i64 8, v] 266))
 have NB : w.heap.size ≠ b := by have := h.wr.lt; omega
 have ab : Aside0 (Fits (l ++ [78, 79, 84, 32]) d m (opd 3 t (shw t).1) (opdD 3 t (dep t))) := ⟨by unfold Fits at hf ⊢; simp only [List.length_append, List.length_cons, List.length_nil] at hf ⊢; omega⟩;have HNB := Aside0.mk NB;clear h hf hT NB
 go_enter Tryz.func186, Tryz.ntmps186
 go_wp2_with (first
  | (go_at_call 62; go_must (refine (HP.out.str ⟨#[78, 79, 84, 32]⟩ (by have := ab.out.1; simp only [List.length_append, List.length_cons, List.length_nil] at this; show _ + 4 ≤ _; omega)).mono ?_; rintro e w1 ⟨rfl, ho⟩; have aa := Aside0.mk ho; clear ho; have c1 : w1.cell? ⟨w.heap.size, 1, none⟩ = some v := (qa (aa.out.keeps K3.out HNB.out (by decide)) 1).trans rfl))
  | (go_at_call 152; go_must (refine (HT.out _ b (l ++ [78, 79, 84, 32]) d m 3 aa.out.ps ab.out).mono ?_; rintro e w2 ⟨rfl, ho⟩; have ac := Aside0.mk (aa.out.next ho); clear ho)))
 refine bodyPost_ret (results_none rfl _ _ _) rfl ?_
 exact ⟨rfl, by have h9 := HA.out.next ac.out; simp only [List.append_assoc, List.cons_append, List.nil_append] at h9 ⊢; exact h9⟩
def spL (op : Int) : List UInt8 := if op = 7 then [32] else []
set_option maxHeartbeats 4000000 in
set_option maxRecDepth 100000 in
theorem ahead_neg (W0 w : World) (b : Nat) (l : List UInt8) (d m : Int) (v : Value) (t : Tr) (hv : IsT W0 v t) (hT : zH W0 v t) (h : PW W0 b l d m w) (hf : Fits l d m (45 :: (spL t.f0.f0 ++ opd 8 t (shw t).1)) (opdD 8 t (dep t))) :
 Calls Tryz.prog 186 #[.pointer (some ⟨b, 0, none⟩), .agg #[.int .i64 7, v]] w fun e w' => e = .returned (.tuple #[]) ∧ PO W0 b (l ++ 45 :: (spL t.f0.f0 ++ opd 8 t (shw t).1)) d (max m (d + opdD 8 t (dep t))) w w' := by
 have HA := Aside0.mk ((PO.start h).below (q8 (Below.refl w.heap.size w) (.cells #[.int .i64 7, v] 266)));have HP := Aside0.mk (PO.start HA.out.ps);have HT := Aside0.mk hT;have HF := Aside0.mk hf;have K3 := Aside0.mk (qL w (.cells #[.int .i64 7, v] 266))
 have NB : w.heap.size ≠ b := by have := h.wr.lt; omega
 have HNB := Aside0.mk NB;have HN := neg_form hv;clear h hT NB hv;obtain ⟨out, ho⟩ : ∃ out, out = l ++ 45 :: (spL t.f0.f0 ++ opd 8 t (shw t).1) := ⟨_, rfl⟩;rw [← ho];have HO := Aside0.mk ho;clear ho
 cases HN with
 | yes T2 u2 hv ht =>
  subst hv;have ab : Aside0 (Fits (l ++ [45] ++ [32]) d m (opd 8 t (shw t).1) (opdD 8 t (dep t))) := ⟨by unfold Fits at hf ⊢; simp only [spL, if_pos ht, List.length_append, List.length_cons, List.length_nil] at hf ⊢; omega⟩;have HS : Aside0 (spL t.f0.f0 = [32]) := ⟨by unfold spL; rw [if_pos ht]⟩;clear hf ht
  go_enter Tryz.func186, Tryz.ntmps186
  go_upto_region 5 with (go_at_call 173; go_must (refine (HP.out.byte 45 (by have := ab.out.1; simp only [List.length_append, List.length_cons, List.length_nil] at this; omega)).mono ?_; rintro e w1 ⟨rfl, ho⟩; have aa := Aside0.mk ho; clear ho; have c1 : w1.cell? ⟨w.heap.size, 1, none⟩ = some (.iface 266 (.agg #[.int .i64 7, .iface T2 u2])) := (qa (aa.out.keeps K3.out HNB.out (by decide)) 1).trans rfl))
  have q := ta_ahead (.agg #[.int .i64 7, .iface T2 u2])
  go_wp2_with (first
   | (go_at_call 173; go_must (refine ((aa.out.below (q8 (Below.refl _ _) (.cells #[.int .i64 7, .iface T2 u2] 266))).byte 32 (by have := ab.out.1; simp only [List.length_append, List.length_cons, List.length_nil] at this ⊢; omega)).mono ?_; rintro e w2 ⟨rfl, ho⟩; have ag := Aside0.mk ho; clear ho; have c2 : w2.cell? ⟨w.heap.size, 1, none⟩ = some (.iface 266 (.agg #[.int .i64 7, .iface T2 u2])) := (qa (ag.out.keeps K3.out HNB.out (by decide)) 1).trans rfl))
   | (go_at_call 152; go_must (refine (HT.out _ b (l ++ [45] ++ [32]) d m 8 ag.out.ps ab.out).mono ?_; rintro e w3 ⟨rfl, ho⟩; have ae := Aside0.mk (ag.out.next ho); clear ho)))
  go_end0
  exact ⟨rfl, by have h9 := HA.out.next ae.out; rw [HO.out, HS.out]; simp only [List.append_assoc, List.cons_append, List.nil_append] at h9 ⊢; exact h9⟩
 | not T2 u2 hv h =>
  subst hv;have ab : Aside0 (Fits (l ++ [45]) d m (opd 8 t (shw t).1) (opdD 8 t (dep t))) := ⟨by unfold Fits at hf ⊢; simp only [spL, if_neg h, List.length_append, List.length_cons, List.length_nil] at hf ⊢; omega⟩;have HS : Aside0 (spL t.f0.f0 = []) := ⟨by unfold spL; rw [if_neg h]⟩;clear hf h
  go_enter Tryz.func186, Tryz.ntmps186
  go_upto_region 5 with (go_at_call 173; go_must (refine (HP.out.byte 45 (by have := ab.out.1; simp only [List.length_append, List.length_cons, List.length_nil] at this; omega)).mono ?_; rintro e w1 ⟨rfl, ho⟩; have aa := Aside0.mk ho; clear ho; have c1 : w1.cell? ⟨w.heap.size, 1, none⟩ = some (.iface 266 (.agg #[.int .i64 8, .iface T2 u2])) := (qa (aa.out.keeps K3.out HNB.out (by decide)) 1).trans rfl))
  have ai : w.heap.size < w1.heap.size := World.block_lt_of_cell? w1 _ c1;have q := ta_ahead (.agg #[.int .i64 8, .iface T2 u2])
  go_wp2_with (first
   | (go_at_call 152; go_must (refine (HT.out _ b (l ++ [45]) d m 8 (aa.out.below (q8 (Below.refl _ _) (.cells #[.int .i64 8, .iface T2 u2] 266))).ps ab.out).mono ?_; rintro e w3 ⟨rfl, ho⟩; have ae := Aside0.mk ((aa.out.below (q8 (Below.refl _ _) (.cells #[.int .i64 8, .iface T2 u2] 266))).next ho); clear ho)))
  go_end0
  exact ⟨rfl, by have h9 := HA.out.next ae.out; rw [HO.out, HS.out]; simp only [List.append_assoc, List.cons_append, List.nil_append] at h9 ⊢; exact h9⟩
 | other T u hv hT h =>
  subst hv
  have q : ∀ w : World, (Instr.typeAssert (.iface T u) 227 266 true).run Tryz.prog w = .ok (.tuple #[.agg #[.int .i64 0, .nilIface], .bool false]) w := by
   rcases hT with rfl | rfl | rfl | rfl | rfl | rfl
   · exact ta_atom_ahead u
   · exact vH u
   · exact vx u
   · exact ve u
   · exact ta_choice_ahead u
   · exact ta_called_ahead u
  clear hT;have ab : Aside0 (Fits (l ++ [45]) d m (opd 8 t (shw t).1) (opdD 8 t (dep t))) := ⟨by unfold Fits at hf ⊢; simp only [spL, if_neg h, List.length_append, List.length_cons, List.length_nil] at hf ⊢; omega⟩;have HS : Aside0 (spL t.f0.f0 = []) := ⟨by unfold spL; rw [if_neg h]⟩;clear hf h
  go_enter Tryz.func186, Tryz.ntmps186
  go_upto_region 5 with (go_at_call 173; go_must (refine (HP.out.byte 45 (by have := ab.out.1; simp only [List.length_append, List.length_cons, List.length_nil] at this; omega)).mono ?_; rintro e w1 ⟨rfl, ho⟩; have aa := Aside0.mk ho; clear ho; have c1 : w1.cell? ⟨w.heap.size, 1, none⟩ = some (.iface T u) := (qa (aa.out.keeps K3.out HNB.out (by decide)) 1).trans rfl))
  have ai : w.heap.size < w1.heap.size := World.block_lt_of_cell? w1 _ c1
  skip
  go_wp2_with (first
   | (go_at_call 152; go_must (refine (HT.out _ b (l ++ [45]) d m 8 (aa.out.below (q8 (Below.refl _ _) (.cells #[.int .i64 0, .nilIface] 266))).ps ab.out).mono ?_; rintro e w3 ⟨rfl, ho⟩; have ae := Aside0.mk ((aa.out.below (q8 (Below.refl _ _) (.cells #[.int .i64 0, .nilIface] 266))).next ho); clear ho)))
  go_end0
  exact ⟨rfl, by have h9 := HA.out.next ae.out; rw [HO.out, HS.out]; simp only [List.append_assoc, List.cons_append, List.nil_append] at h9 ⊢; exact h9⟩
theorem zy (a : Addr) : a.add 0 = a := by
 unfold Addr.add;rw [if_pos rfl]
theorem xx (a : Addr) (i : Nat) (h : 0 < i) : a.add i = ⟨a.block, a.off + i, none⟩ := by
 unfold Addr.add;rw [if_neg (by omega)]
def ntL (nt : Bool) : List UInt8 := if nt = true then [32, 78, 79, 84] else []
structure MB (W0 W1 w : World) (b g : Nat) (op : Int) (nt : Bool) (ad : Addr) (n c : Nat) (l : List UInt8) (d m : Int) : Prop where
 po : PO W0 b l d m W1 w
 k2 : W1.heap[g]? = some (.cells #[.pointer (some ⟨b, 0, none⟩)] 229 (0, 0))
 k3 : W1.heap[g + 1]? = some (.cells #[.int .i64 op, .bool nt, .slice (some ad) n c] 263 (0, 0))
 nb : g ≠ b ∧ g + 1 ≠ b
structure MF (w : World) (b g : Nat) (op : Int) (nt : Bool) (ad : Addr) (n c : Nat) : Prop where
 c2 : w.cell? ⟨g, 0, none⟩ = some (.pointer (some ⟨b, 0, none⟩))
 c30 : w.cell? ⟨g + 1, 0, none⟩ = some (.int .i64 op)
 c31 : w.cell? ⟨g + 1, 1, none⟩ = some (.bool nt)
 c32 : w.cell? ⟨g + 1, 2, none⟩ = some (.slice (some ad) n c)
section
variable {W0 W1 w w2 : World} {b g : Nat} {op : Int} {nt : Bool} {ad : Addr} {n c : Nat} {l l2 : List UInt8} {d m d2 m2 : Int}
theorem MB.facts (h : MB W0 W1 w b g op nt ad n c l d m) : MF w b g op nt ad n c :=
 ⟨(qa (h.po.keeps h.k2 h.nb.1 (by decide)) 0).trans rfl, (qa (h.po.keeps h.k3 h.nb.2 (by decide)) 0).trans rfl, (qa (h.po.keeps h.k3 h.nb.2 (by decide)) 1).trans rfl, (qa (h.po.keeps h.k3 h.nb.2 (by decide)) 2).trans rfl⟩
theorem MB.next (h : MB W0 W1 w b g op nt ad n c l d m) (k : PO W0 b l2 d2 m2 w w2) : MB W0 W1 w2 b g op nt ad n c l2 d2 m2 := ⟨h.po.next k, h.k2, h.k3, h.nb⟩
theorem MB.drew (h : MB W0 W1 w b g op nt ad n c l d m) : MB W0 W1 w.drew b g op nt ad n c l d m := ⟨h.po.below (qb (Below.refl _ _)), h.k2, h.k3, h.nb⟩
theorem MB.elem (h : MB W0 W1 w b g op nt ad n c l d m) {a : Addr} {v : Value} (hc : W0.cell? a = some v) : w.cell? a = some v := (h.po.ps.be.cell (World.block_lt_of_cell? W0 _ hc)).trans hc
theorem MB.str (h : MB W0 W1 w b g op nt ad n c l d m) (s : ByteArray) (hlen : l.length + s.size ≤ 140737488355328) :
 Calls Tryz.prog 62 #[.pointer (some ⟨b, 0, none⟩), .string s] w fun e w' => e = .returned (.tuple #[.int .i64 s.size, .nilIface]) ∧ MB W0 W1 w' b g op nt ad n c (l ++ s.data.toList) d m :=
 (h.po.str s hlen).mono (by rintro e w' ⟨rfl, ho⟩; exact ⟨rfl, ho, h.k2, h.k3, h.nb⟩)
theorem MB.tree (h : MB W0 W1 w b g op nt ad n c l d m) {v : Value} {t : Tr} (hT : zH W0 v t) (lv : Int) (hf : Fits l d m (opd lv t (shw t).1) (opdD lv t (dep t))) :
 Calls Tryz.prog 152 #[.pointer (some ⟨b, 0, none⟩), v, .int .i64 lv] w fun e w' => e = .returned (.tuple #[]) ∧ MB W0 W1 w' b g op nt ad n c (l ++ opd lv t (shw t).1) d (max m (d + opdD lv t (dep t))) :=
 (hT w b l d m lv h.po.ps hf).mono (by rintro e w' ⟨rfl, ho⟩; exact ⟨rfl, h.next ho⟩)
end
theorem vI {W0 w : World} {b : Nat} {l : List UInt8} {d m : Int} (op : Int) (nt : Bool) (ad : Addr) (n c : Nat) (h : PW W0 b l d m w) :
 MB W0 ((w.alloc (.cells #[.pointer (some ⟨b, 0, none⟩)] 229)).alloc (.cells #[.int .i64 op, .bool nt, .slice (some ad) n c] 263)) ((w.alloc (.cells #[.pointer (some ⟨b, 0, none⟩)] 229)).alloc (.cells #[.int .i64 op, .bool nt, .slice (some ad) n c] 263)) b w.heap.size op nt ad n c l d m := by
 have k4 := qL (w.alloc (.cells #[.pointer (some ⟨b, 0, none⟩)] 229)) (.cells #[.int .i64 op, .bool nt, .slice (some ad) n c] 263);rw [World.size_alloc] at k4;have hlt := h.wr.lt
 exact ⟨PO.start (h.below (q8 (q8 (Below.refl _ _) _) _)), qe (qL w _) _, k4, by omega, by omega⟩
theorem blen (s : Array UInt8) : (⟨s⟩ : ByteArray).data.toList.length = s.size := by rw [Array.length_toList]
set_option maxHeartbeats 4000000 in
set_option maxRecDepth 100000 in
theorem matched_like (W0 w : World) (b : Nat) (l : List UInt8) (d m : Int) (ad : Addr) (c : Nat) (v0 v1 : Value) (t0 t1 : Tr) (h0 : W0.cell? (ad.add 0) = some v0) (h1 : W0.cell? (ad.add 1) = some v1) (hc : 2 ≤ c) (am : zH W0 v0 t0) (an : zH W0 v1 t1) (h : PW W0 b l d m w)
 (hf : Fits l d m (opd 5 t0 (shw t0).1 ++ [32, 76, 73, 75, 69, 32] ++ opd 5 t1 (shw t1).1) (max (opdD 5 t0 (dep t0)) (opdD 5 t1 (dep t1)))) :
 Calls Tryz.prog 187 #[.pointer (some ⟨b, 0, none⟩), .agg #[.int .i64 25, .bool false, .slice (some ad) 2 c]] w fun e w' => e = .returned (.tuple #[]) ∧ PO W0 b (l ++ (opd 5 t0 (shw t0).1 ++ [32, 76, 73, 75, 69, 32] ++ opd 5 t1 (shw t1).1)) d (max m (d + ((max (opdD 5 t0 (dep t0)) (opdD 5 t1 (dep t1)) : Nat) : Int))) w w' := by
 have HA := Aside0.mk ((PO.start h).below (q8 (q8 (Below.refl w.heap.size w) (.cells #[.pointer (some ⟨b, 0, none⟩)] 229)) (.cells #[.int .i64 25, .bool false, .slice (some ad) 2 c] 263)));have H0 := Aside0.mk (vI 25 false ad 2 c h);obtain ⟨S0, ah⟩ : ∃ S, S = opd 5 t0 (shw t0).1 := ⟨_, rfl⟩;obtain ⟨D0, ai⟩ : ∃ D, D = opdD 5 t0 (dep t0) := ⟨_, rfl⟩;obtain ⟨S1, aj⟩ : ∃ S, S = opd 5 t1 (shw t1).1 := ⟨_, rfl⟩;obtain ⟨D1, ak⟩ : ∃ D, D = opdD 5 t1 (dep t1) := ⟨_, rfl⟩;rw [← ah, ← ai, ← aj, ← ak] at hf ⊢;obtain ⟨out, ho⟩ : ∃ out, out = l ++ (S0 ++ [32, 76, 73, 75, 69, 32] ++ S1) := ⟨_, rfl⟩;obtain ⟨M, hM⟩ : ∃ M, M = max m (d + ((max D0 D1 : Nat) : Int)) := ⟨_, rfl⟩;rw [← ho, ← hM];have HO := Aside0.mk ho;have HM := Aside0.mk hM;have ac := Aside0.mk (And.intro ah ai);have a0 := Aside0.mk am;have E0 := Aside0.mk h0;have ae := Aside0.mk (And.intro aj ak);have a1 := Aside0.mk an;have E1 := Aside0.mk h1;have HF : Aside0 (l.length + S0.length + S1.length + 6 ≤ 140737488355328 ∧ 0 ≤ d ∧ d + D0 ≤ 1000000000 ∧ d + D1 ≤ 1000000000 ∧ d ≤ m ∧ m ≤ 1000000000) := ⟨by unfold Fits at hf; simp only [List.length_append, List.length_cons, List.length_nil] at hf; omega⟩;clear h hf ho hM ah ai am h0 aj ak an h1
 go_enter Tryz.func187, Tryz.ntmps187
 go_upto_region 1 with (fail)
 generalize ((w.alloc (.cells #[.pointer (some ⟨b, 0, none⟩)] 229)).alloc (.cells #[.int .i64 25, .bool false, .slice (some ad) 2 c] 263)) = w0 at *;generalize w.heap.size = g at *;obtain ⟨c2, c30, c31, c32⟩ := H0.out.facts;have ce : w0.cell? ad = some v0 := zy ad ▸ H0.out.elem E0.out
 go_still_tail 5, (by kernel_rfl)
 change wpList _ _ _ _ _ w0.drew;replace H0 := Aside0.mk H0.out.drew;generalize w0.drew = w1 at *;clear c2 c30 c31 c32 ce
 go_upto_region 8 with (first
  | (go_at_call 152; have hfit : Fits (l) d (m) (opd 5 t0 (shw t0).1) (opdD 5 t0 (dep t0)) := (by have := HF.out; unfold Fits; rw [← ac.out.1, ← ac.out.2]; (try simp only [List.length_append, blen, List.size_toArray, List.length_cons, List.length_nil]); omega); ((with_reducible refine (H0.out.tree a0.out 5 hfit).mono ?_)); go_must (rintro e w2 ⟨rfl, ho⟩; rw [← ac.out.1, ← ac.out.2] at ho; have H1 := Aside0.mk ho; clear ho hfit; obtain ⟨c2, c30, c31, c32⟩ := H1.out.facts))
  | (go_at_call 62; have hlen : (l ++ S0).length + (⟨#[32, 76, 73, 75, 69, 32]⟩ : ByteArray).size ≤ 140737488355328 := (by have := HF.out; (try simp only [List.length_append, blen, List.size_toArray, List.length_cons, List.length_nil]); show _ + 6 ≤ _; omega); ((with_reducible refine (H1.out.str ⟨#[32, 76, 73, 75, 69, 32]⟩ hlen).mono ?_)); go_must (rintro e w3 ⟨rfl, ho⟩; have H2 := Aside0.mk ho; clear ho hlen c2 c30 c31 c32; obtain ⟨c2, c30, c31, c32⟩ := H2.out.facts)))
 clear c2 c30 c31 c32;obtain ⟨c2, c30, c31, c32⟩ := H2.out.facts;have ce : w3.cell? ⟨ad.block, ad.off + 1, none⟩ = some v1 := xx ad 1 (by decide) ▸ H2.out.elem E1.out
 go_still_tail 5, (by kernel_rfl)
 change wpList _ _ _ _ _ w3.drew;replace H2 := Aside0.mk H2.out.drew;generalize w3.drew = w4 at *;clear c2 c30 c31 c32 ce
 go_wp2_with (first
  | (go_at_call 152; have hfit : Fits (l ++ S0 ++ (⟨#[32, 76, 73, 75, 69, 32]⟩ : ByteArray).data.toList) d (max m (d + (D0 : Int))) (opd 5 t1 (shw t1).1) (opdD 5 t1 (dep t1)) := (by have := HF.out; unfold Fits; rw [← ae.out.1, ← ae.out.2]; (try simp only [List.length_append, blen, List.size_toArray, List.length_cons, List.length_nil]); omega); ((with_reducible refine (H2.out.tree a1.out 5 hfit).mono ?_)); go_must (rintro e w5 ⟨rfl, ho⟩; rw [← ae.out.1, ← ae.out.2] at ho; have H3 := Aside0.mk ho; clear ho hfit; obtain ⟨c2, c30, c31, c32⟩ := H3.out.facts)))
 go_end0
 refine ⟨rfl, ?_⟩;have h9 := HA.out.next H3.out.po
 have eM : max (max m (d + (D0 : Int))) (d + (D1 : Int)) = M := by have := HM.out; omega
 rw [eM] at h9;rw [HO.out];simp only [List.append_assoc, List.cons_append, List.nil_append] at h9 ⊢
 exact h9
set_option maxHeartbeats 4000000 in
set_option maxRecDepth 100000 in
theorem matched_between (W0 w : World) (b : Nat) (l : List UInt8) (d m : Int) (ad : Addr) (c : Nat) (v0 v1 v2 : Value) (t0 t1 t2 : Tr) (h0 : W0.cell? (ad.add 0) = some v0) (h1 : W0.cell? (ad.add 1) = some v1) (h2 : W0.cell? (ad.add 2) = some v2) (hc : 3 ≤ c) (ax : zH W0 v0 t0) (ay : zH W0 v1 t1) (az : zH W0 v2 t2) (h : PW W0 b l d m w)
 (hf : Fits l d m (opd 5 t0 (shw t0).1 ++ [32, 66, 69, 84, 87, 69, 69, 78, 32] ++ opd 5 t1 (shw t1).1 ++ [32, 65, 78, 68, 32] ++ opd 5 t2 (shw t2).1) (max (max (opdD 5 t0 (dep t0)) (opdD 5 t1 (dep t1))) (opdD 5 t2 (dep t2)))) :
 Calls Tryz.prog 187 #[.pointer (some ⟨b, 0, none⟩), .agg #[.int .i64 26, .bool false, .slice (some ad) 3 c]] w fun e w' => e = .returned (.tuple #[]) ∧ PO W0 b (l ++ (opd 5 t0 (shw t0).1 ++ [32, 66, 69, 84, 87, 69, 69, 78, 32] ++ opd 5 t1 (shw t1).1 ++ [32, 65, 78, 68, 32] ++ opd 5 t2 (shw t2).1)) d (max m (d + ((max (max (opdD 5 t0 (dep t0)) (opdD 5 t1 (dep t1))) (opdD 5 t2 (dep t2)) : Nat) : Int))) w w' := by
 have HA := Aside0.mk ((PO.start h).below (q8 (q8 (Below.refl w.heap.size w) (.cells #[.pointer (some ⟨b, 0, none⟩)] 229)) (.cells #[.int .i64 26, .bool false, .slice (some ad) 3 c] 263)));have H0 := Aside0.mk (vI 26 false ad 3 c h);obtain ⟨S0, al⟩ : ∃ S, S = opd 5 t0 (shw t0).1 := ⟨_, rfl⟩;obtain ⟨D0, am⟩ : ∃ D, D = opdD 5 t0 (dep t0) := ⟨_, rfl⟩;obtain ⟨S1, an⟩ : ∃ S, S = opd 5 t1 (shw t1).1 := ⟨_, rfl⟩;obtain ⟨D1, ao⟩ : ∃ D, D = opdD 5 t1 (dep t1) := ⟨_, rfl⟩;obtain ⟨S2, ap⟩ : ∃ S, S = opd 5 t2 (shw t2).1 := ⟨_, rfl⟩;obtain ⟨D2, au⟩ : ∃ D, D = opdD 5 t2 (dep t2) := ⟨_, rfl⟩;rw [← al, ← am, ← an, ← ao, ← ap, ← au] at hf ⊢;obtain ⟨out, ho⟩ : ∃ out, out = l ++ (S0 ++ [32, 66, 69, 84, 87, 69, 69, 78, 32] ++ S1 ++ [32, 65, 78, 68, 32] ++ S2) := ⟨_, rfl⟩;obtain ⟨M, hM⟩ : ∃ M, M = max m (d + ((max (max D0 D1) D2 : Nat) : Int)) := ⟨_, rfl⟩;rw [← ho, ← hM];have HO := Aside0.mk ho;have HM := Aside0.mk hM;have ae := Aside0.mk (And.intro al am);have bb := Aside0.mk ax;have E0 := Aside0.mk h0;have af := Aside0.mk (And.intro an ao);have bc := Aside0.mk ay;have E1 := Aside0.mk h1;have ag := Aside0.mk (And.intro ap au);have bd := Aside0.mk az;have E2 := Aside0.mk h2;have HF : Aside0 (l.length + S0.length + S1.length + S2.length + 14 ≤ 140737488355328 ∧ 0 ≤ d ∧ d + D0 ≤ 1000000000 ∧ d + D1 ≤ 1000000000 ∧ d + D2 ≤ 1000000000 ∧ d ≤ m ∧ m ≤ 1000000000) := ⟨by unfold Fits at hf; simp only [List.length_append, List.length_cons, List.length_nil] at hf; omega⟩;clear h hf ho hM al am ax h0 an ao ay h1 ap au az h2
 go_enter Tryz.func187, Tryz.ntmps187
 go_upto_region 1 with (fail)
 generalize ((w.alloc (.cells #[.pointer (some ⟨b, 0, none⟩)] 229)).alloc (.cells #[.int .i64 26, .bool false, .slice (some ad) 3 c] 263)) = w0 at *;generalize w.heap.size = g at *;obtain ⟨c2, c30, c31, c32⟩ := H0.out.facts;have ce : w0.cell? ad = some v0 := zy ad ▸ H0.out.elem E0.out
 go_still_tail 5, (by kernel_rfl)
 change wpList _ _ _ _ _ w0.drew;replace H0 := Aside0.mk H0.out.drew;generalize w0.drew = w1 at *;clear c2 c30 c31 c32 ce
 go_upto_region 11 with (first
  | (go_at_call 152; have hfit : Fits (l) d (m) (opd 5 t0 (shw t0).1) (opdD 5 t0 (dep t0)) := (by have := HF.out; unfold Fits; rw [← ae.out.1, ← ae.out.2]; (try simp only [List.length_append, blen, List.size_toArray, List.length_cons, List.length_nil]); omega); ((with_reducible refine (H0.out.tree bb.out 5 hfit).mono ?_)); go_must (rintro e w2 ⟨rfl, ho⟩; rw [← ae.out.1, ← ae.out.2] at ho; have H1 := Aside0.mk ho; clear ho hfit; obtain ⟨c2, c30, c31, c32⟩ := H1.out.facts))
  | (go_at_call 62; have hlen : (l ++ S0).length + (⟨#[32, 66, 69, 84, 87, 69, 69, 78, 32]⟩ : ByteArray).size ≤ 140737488355328 := (by have := HF.out; (try simp only [List.length_append, blen, List.size_toArray, List.length_cons, List.length_nil]); show _ + 9 ≤ _; omega); ((with_reducible refine (H1.out.str ⟨#[32, 66, 69, 84, 87, 69, 69, 78, 32]⟩ hlen).mono ?_)); go_must (rintro e w3 ⟨rfl, ho⟩; have H2 := Aside0.mk ho; clear ho hlen c2 c30 c31 c32; obtain ⟨c2, c30, c31, c32⟩ := H2.out.facts)))
 clear c2 c30 c31 c32;obtain ⟨c2, c30, c31, c32⟩ := H2.out.facts;have ce : w3.cell? ⟨ad.block, ad.off + 1, none⟩ = some v1 := xx ad 1 (by decide) ▸ H2.out.elem E1.out
 go_still_tail 5, (by kernel_rfl)
 change wpList _ _ _ _ _ w3.drew;replace H2 := Aside0.mk H2.out.drew;generalize w3.drew = w4 at *;clear c2 c30 c31 c32 ce
 go_upto_region 13 with (first
  | (go_at_call 152; have hfit : Fits (l ++ S0 ++ (⟨#[32, 66, 69, 84, 87, 69, 69, 78, 32]⟩ : ByteArray).data.toList) d (max m (d + (D0 : Int))) (opd 5 t1 (shw t1).1) (opdD 5 t1 (dep t1)) := (by have := HF.out; unfold Fits; rw [← af.out.1, ← af.out.2]; (try simp only [List.length_append, blen, List.size_toArray, List.length_cons, List.length_nil]); omega); ((with_reducible refine (H2.out.tree bc.out 5 hfit).mono ?_)); go_must (rintro e w5 ⟨rfl, ho⟩; rw [← af.out.1, ← af.out.2] at ho; have H3 := Aside0.mk ho; clear ho hfit; obtain ⟨c2, c30, c31, c32⟩ := H3.out.facts))
  | (go_at_call 62; have hlen : (l ++ S0 ++ (⟨#[32, 66, 69, 84, 87, 69, 69, 78, 32]⟩ : ByteArray).data.toList ++ S1).length + (⟨#[32, 65, 78, 68, 32]⟩ : ByteArray).size ≤ 140737488355328 := (by have := HF.out; (try simp only [List.length_append, blen, List.size_toArray, List.length_cons, List.length_nil]); show _ + 5 ≤ _; omega); ((with_reducible refine (H3.out.str ⟨#[32, 65, 78, 68, 32]⟩ hlen).mono ?_)); go_must (rintro e w6 ⟨rfl, ho⟩; have H4 := Aside0.mk ho; clear ho hlen c2 c30 c31 c32; obtain ⟨c2, c30, c31, c32⟩ := H4.out.facts)))
 clear c2 c30 c31 c32;obtain ⟨c2, c30, c31, c32⟩ := H4.out.facts;have ce : w6.cell? ⟨ad.block, ad.off + 2, none⟩ = some v2 := xx ad 2 (by decide) ▸ H4.out.elem E2.out
 go_still_tail 5, (by kernel_rfl)
 change wpList _ _ _ _ _ w6.drew;replace H4 := Aside0.mk H4.out.drew;generalize w6.drew = w7 at *;clear c2 c30 c31 c32 ce
 go_wp2_with (first
  | (go_at_call 152; have hfit : Fits (l ++ S0 ++ (⟨#[32, 66, 69, 84, 87, 69, 69, 78, 32]⟩ : ByteArray).data.toList ++ S1 ++ (⟨#[32, 65, 78, 68, 32]⟩ : ByteArray).data.toList) d (max (max m (d + (D0 : Int))) (d + (D1 : Int))) (opd 5 t2 (shw t2).1) (opdD 5 t2 (dep t2)) := (by have := HF.out; unfold Fits; rw [← ag.out.1, ← ag.out.2]; (try simp only [List.length_append, blen, List.size_toArray, List.length_cons, List.length_nil]); omega); ((with_reducible refine (H4.out.tree bd.out 5 hfit).mono ?_)); go_must (rintro e w8 ⟨rfl, ho⟩; rw [← ag.out.1, ← ag.out.2] at ho; have H5 := Aside0.mk ho; clear ho hfit; obtain ⟨c2, c30, c31, c32⟩ := H5.out.facts)))
 go_end0
 refine ⟨rfl, ?_⟩;have h9 := HA.out.next H5.out.po
 have eM : max (max (max m (d + (D0 : Int))) (d + (D1 : Int))) (d + (D2 : Int)) = M := by have := HM.out; omega
 rw [eM] at h9;rw [HO.out];simp only [List.append_assoc, List.cons_append, List.nil_append] at h9 ⊢
 exact h9
set_option maxHeartbeats 4000000 in
set_option maxRecDepth 100000 in
theorem matched_like_not (W0 w : World) (b : Nat) (l : List UInt8) (d m : Int) (ad : Addr) (c : Nat) (v0 v1 : Value) (t0 t1 : Tr) (h0 : W0.cell? (ad.add 0) = some v0) (h1 : W0.cell? (ad.add 1) = some v1) (hc : 2 ≤ c) (am : zH W0 v0 t0) (an : zH W0 v1 t1) (h : PW W0 b l d m w)
 (hf : Fits l d m (opd 5 t0 (shw t0).1 ++ [32, 78, 79, 84] ++ [32, 76, 73, 75, 69, 32] ++ opd 5 t1 (shw t1).1) (max (opdD 5 t0 (dep t0)) (opdD 5 t1 (dep t1)))) :
 Calls Tryz.prog 187 #[.pointer (some ⟨b, 0, none⟩), .agg #[.int .i64 25, .bool true, .slice (some ad) 2 c]] w fun e w' => e = .returned (.tuple #[]) ∧ PO W0 b (l ++ (opd 5 t0 (shw t0).1 ++ [32, 78, 79, 84] ++ [32, 76, 73, 75, 69, 32] ++ opd 5 t1 (shw t1).1)) d (max m (d + ((max (opdD 5 t0 (dep t0)) (opdD 5 t1 (dep t1)) : Nat) : Int))) w w' := by
 have HA := Aside0.mk ((PO.start h).below (q8 (q8 (Below.refl w.heap.size w) (.cells #[.pointer (some ⟨b, 0, none⟩)] 229)) (.cells #[.int .i64 25, .bool true, .slice (some ad) 2 c] 263)));have H0 := Aside0.mk (vI 25 true ad 2 c h);obtain ⟨S0, ai⟩ : ∃ S, S = opd 5 t0 (shw t0).1 := ⟨_, rfl⟩;obtain ⟨D0, aj⟩ : ∃ D, D = opdD 5 t0 (dep t0) := ⟨_, rfl⟩;obtain ⟨S1, ak⟩ : ∃ S, S = opd 5 t1 (shw t1).1 := ⟨_, rfl⟩;obtain ⟨D1, al⟩ : ∃ D, D = opdD 5 t1 (dep t1) := ⟨_, rfl⟩;rw [← ai, ← aj, ← ak, ← al] at hf ⊢;obtain ⟨out, ho⟩ : ∃ out, out = l ++ (S0 ++ [32, 78, 79, 84] ++ [32, 76, 73, 75, 69, 32] ++ S1) := ⟨_, rfl⟩;obtain ⟨M, hM⟩ : ∃ M, M = max m (d + ((max D0 D1 : Nat) : Int)) := ⟨_, rfl⟩;rw [← ho, ← hM];have HO := Aside0.mk ho;have HM := Aside0.mk hM;have ac := Aside0.mk (And.intro ai aj);have a0 := Aside0.mk am;have E0 := Aside0.mk h0;have ae := Aside0.mk (And.intro ak al);have a1 := Aside0.mk an;have E1 := Aside0.mk h1;have HF : Aside0 (l.length + S0.length + S1.length + 10 ≤ 140737488355328 ∧ 0 ≤ d ∧ d + D0 ≤ 1000000000 ∧ d + D1 ≤ 1000000000 ∧ d ≤ m ∧ m ≤ 1000000000) := ⟨by unfold Fits at hf; simp only [List.length_append, List.length_cons, List.length_nil] at hf; omega⟩;clear h hf ho hM ai aj am h0 ak al an h1
 go_enter Tryz.func187, Tryz.ntmps187
 go_upto_region 1 with (fail)
 generalize ((w.alloc (.cells #[.pointer (some ⟨b, 0, none⟩)] 229)).alloc (.cells #[.int .i64 25, .bool true, .slice (some ad) 2 c] 263)) = w0 at *;generalize w.heap.size = g at *;obtain ⟨c2, c30, c31, c32⟩ := H0.out.facts;have ce : w0.cell? ad = some v0 := zy ad ▸ H0.out.elem E0.out
 go_still_tail 5, (by kernel_rfl)
 change wpList _ _ _ _ _ w0.drew;replace H0 := Aside0.mk H0.out.drew;generalize w0.drew = w1 at *;clear c2 c30 c31 c32 ce
 go_upto_region 8 with (first
  | (go_at_call 152; have hfit : Fits (l) d (m) (opd 5 t0 (shw t0).1) (opdD 5 t0 (dep t0)) := (by have := HF.out; unfold Fits; rw [← ac.out.1, ← ac.out.2]; (try simp only [List.length_append, blen, List.size_toArray, List.length_cons, List.length_nil]); omega); ((with_reducible refine (H0.out.tree a0.out 5 hfit).mono ?_)); go_must (rintro e w2 ⟨rfl, ho⟩; rw [← ac.out.1, ← ac.out.2] at ho; have H1 := Aside0.mk ho; clear ho hfit; obtain ⟨c2, c30, c31, c32⟩ := H1.out.facts))
  | (go_at_call 62; have hlen : (l ++ S0).length + (⟨#[32, 78, 79, 84]⟩ : ByteArray).size ≤ 140737488355328 := (by have := HF.out; (try simp only [List.length_append, blen, List.size_toArray, List.length_cons, List.length_nil]); show _ + 4 ≤ _; omega); ((with_reducible refine (H1.out.str ⟨#[32, 78, 79, 84]⟩ hlen).mono ?_)); go_must (rintro e w3 ⟨rfl, ho⟩; have H2 := Aside0.mk ho; clear ho hlen c2 c30 c31 c32; obtain ⟨c2, c30, c31, c32⟩ := H2.out.facts))
  | (go_at_call 62; have hlen : (l ++ S0 ++ (⟨#[32, 78, 79, 84]⟩ : ByteArray).data.toList).length + (⟨#[32, 76, 73, 75, 69, 32]⟩ : ByteArray).size ≤ 140737488355328 := (by have := HF.out; (try simp only [List.length_append, blen, List.size_toArray, List.length_cons, List.length_nil]); show _ + 6 ≤ _; omega); ((with_reducible refine (H2.out.str ⟨#[32, 76, 73, 75, 69, 32]⟩ hlen).mono ?_)); go_must (rintro e w4 ⟨rfl, ho⟩; have H3 := Aside0.mk ho; clear ho hlen c2 c30 c31 c32; obtain ⟨c2, c30, c31, c32⟩ := H3.out.facts)))
 clear c2 c30 c31 c32;obtain ⟨c2, c30, c31, c32⟩ := H3.out.facts;have ce : w4.cell? ⟨ad.block, ad.off + 1, none⟩ = some v1 := xx ad 1 (by decide) ▸ H3.out.elem E1.out
 go_still_tail 5, (by kernel_rfl)
 change wpList _ _ _ _ _ w4.drew;replace H3 := Aside0.mk H3.out.drew;generalize w4.drew = w5 at *;clear c2 c30 c31 c32 ce
 go_wp2_with (first
  | (go_at_call 152; have hfit : Fits (l ++ S0 ++ (⟨#[32, 78, 79, 84]⟩ : ByteArray).data.toList ++ (⟨#[32, 76, 73, 75, 69, 32]⟩ : ByteArray).data.toList) d (max m (d + (D0 : Int))) (opd 5 t1 (shw t1).1) (opdD 5 t1 (dep t1)) := (by have := HF.out; unfold Fits; rw [← ae.out.1, ← ae.out.2]; (try simp only [List.length_append, blen, List.size_toArray, List.length_cons, List.length_nil]); omega); ((with_reducible refine (H3.out.tree a1.out 5 hfit).mono ?_)); go_must (rintro e w6 ⟨rfl, ho⟩; rw [← ae.out.1, ← ae.out.2] at ho; have H4 := Aside0.mk ho; clear ho hfit; obtain ⟨c2, c30, c31, c32⟩ := H4.out.facts)))
 go_end0
 refine ⟨rfl, ?_⟩;have h9 := HA.out.next H4.out.po
 have eM : max (max m (d + (D0 : Int))) (d + (D1 : Int)) = M := by have := HM.out; omega
 rw [eM] at h9;rw [HO.out];simp only [List.append_assoc, List.cons_append, List.nil_append] at h9 ⊢
 exact h9
set_option maxHeartbeats 4000000 in
set_option maxRecDepth 100000 in
theorem matched_between_not (W0 w : World) (b : Nat) (l : List UInt8) (d m : Int) (ad : Addr) (c : Nat) (v0 v1 v2 : Value) (t0 t1 t2 : Tr) (h0 : W0.cell? (ad.add 0) = some v0) (h1 : W0.cell? (ad.add 1) = some v1) (h2 : W0.cell? (ad.add 2) = some v2) (hc : 3 ≤ c) (ax : zH W0 v0 t0) (ay : zH W0 v1 t1) (az : zH W0 v2 t2) (h : PW W0 b l d m w)
 (hf : Fits l d m (opd 5 t0 (shw t0).1 ++ [32, 78, 79, 84] ++ [32, 66, 69, 84, 87, 69, 69, 78, 32] ++ opd 5 t1 (shw t1).1 ++ [32, 65, 78, 68, 32] ++ opd 5 t2 (shw t2).1) (max (max (opdD 5 t0 (dep t0)) (opdD 5 t1 (dep t1))) (opdD 5 t2 (dep t2)))) :
 Calls Tryz.prog 187 #[.pointer (some ⟨b, 0, none⟩), .agg #[.int .i64 26, .bool true, .slice (some ad) 3 c]] w fun e w' => e = .returned (.tuple #[]) ∧ PO W0 b (l ++ (opd 5 t0 (shw t0).1 ++ [32, 78, 79, 84] ++ [32, 66, 69, 84, 87, 69, 69, 78, 32] ++ opd 5 t1 (shw t1).1 ++ [32, 65, 78, 68, 32] ++ opd 5 t2 (shw t2).1)) d (max m (d + ((max (max (opdD 5 t0 (dep t0)) (opdD 5 t1 (dep t1))) (opdD 5 t2 (dep t2)) : Nat) : Int))) w w' := by
 have HA := Aside0.mk ((PO.start h).below (q8 (q8 (Below.refl w.heap.size w) (.cells #[.pointer (some ⟨b, 0, none⟩)] 229)) (.cells #[.int .i64 26, .bool true, .slice (some ad) 3 c] 263)));have H0 := Aside0.mk (vI 26 true ad 3 c h);obtain ⟨S0, al⟩ : ∃ S, S = opd 5 t0 (shw t0).1 := ⟨_, rfl⟩;obtain ⟨D0, am⟩ : ∃ D, D = opdD 5 t0 (dep t0) := ⟨_, rfl⟩;obtain ⟨S1, an⟩ : ∃ S, S = opd 5 t1 (shw t1).1 := ⟨_, rfl⟩;obtain ⟨D1, ao⟩ : ∃ D, D = opdD 5 t1 (dep t1) := ⟨_, rfl⟩;obtain ⟨S2, ap⟩ : ∃ S, S = opd 5 t2 (shw t2).1 := ⟨_, rfl⟩;obtain ⟨D2, au⟩ : ∃ D, D = opdD 5 t2 (dep t2) := ⟨_, rfl⟩;rw [← al, ← am, ← an, ← ao, ← ap, ← au] at hf ⊢;obtain ⟨out, ho⟩ : ∃ out, out = l ++ (S0 ++ [32, 78, 79, 84] ++ [32, 66, 69, 84, 87, 69, 69, 78, 32] ++ S1 ++ [32, 65, 78, 68, 32] ++ S2) := ⟨_, rfl⟩;obtain ⟨M, hM⟩ : ∃ M, M = max m (d + ((max (max D0 D1) D2 : Nat) : Int)) := ⟨_, rfl⟩;rw [← ho, ← hM];have HO := Aside0.mk ho;have HM := Aside0.mk hM;have af := Aside0.mk (And.intro al am);have bb := Aside0.mk ax;have E0 := Aside0.mk h0;have ag := Aside0.mk (And.intro an ao);have bc := Aside0.mk ay;have E1 := Aside0.mk h1;have ah := Aside0.mk (And.intro ap au);have bd := Aside0.mk az;have E2 := Aside0.mk h2;have HF : Aside0 (l.length + S0.length + S1.length + S2.length + 18 ≤ 140737488355328 ∧ 0 ≤ d ∧ d + D0 ≤ 1000000000 ∧ d + D1 ≤ 1000000000 ∧ d + D2 ≤ 1000000000 ∧ d ≤ m ∧ m ≤ 1000000000) := ⟨by unfold Fits at hf; simp only [List.length_append, List.length_cons, List.length_nil] at hf; omega⟩;clear h hf ho hM al am ax h0 an ao ay h1 ap au az h2
 go_enter Tryz.func187, Tryz.ntmps187
 go_upto_region 1 with (fail)
 generalize ((w.alloc (.cells #[.pointer (some ⟨b, 0, none⟩)] 229)).alloc (.cells #[.int .i64 26, .bool true, .slice (some ad) 3 c] 263)) = w0 at *;generalize w.heap.size = g at *;obtain ⟨c2, c30, c31, c32⟩ := H0.out.facts;have ce : w0.cell? ad = some v0 := zy ad ▸ H0.out.elem E0.out
 go_still_tail 5, (by kernel_rfl)
 change wpList _ _ _ _ _ w0.drew;replace H0 := Aside0.mk H0.out.drew;generalize w0.drew = w1 at *;clear c2 c30 c31 c32 ce
 go_upto_region 11 with (first
  | (go_at_call 152; have hfit : Fits (l) d (m) (opd 5 t0 (shw t0).1) (opdD 5 t0 (dep t0)) := (by have := HF.out; unfold Fits; rw [← af.out.1, ← af.out.2]; (try simp only [List.length_append, blen, List.size_toArray, List.length_cons, List.length_nil]); omega); ((with_reducible refine (H0.out.tree bb.out 5 hfit).mono ?_)); go_must (rintro e w2 ⟨rfl, ho⟩; rw [← af.out.1, ← af.out.2] at ho; have H1 := Aside0.mk ho; clear ho hfit; obtain ⟨c2, c30, c31, c32⟩ := H1.out.facts))
  | (go_at_call 62; have hlen : (l ++ S0).length + (⟨#[32, 78, 79, 84]⟩ : ByteArray).size ≤ 140737488355328 := (by have := HF.out; (try simp only [List.length_append, blen, List.size_toArray, List.length_cons, List.length_nil]); show _ + 4 ≤ _; omega); ((with_reducible refine (H1.out.str ⟨#[32, 78, 79, 84]⟩ hlen).mono ?_)); go_must (rintro e w3 ⟨rfl, ho⟩; have H2 := Aside0.mk ho; clear ho hlen c2 c30 c31 c32; obtain ⟨c2, c30, c31, c32⟩ := H2.out.facts))
  | (go_at_call 62; have hlen : (l ++ S0 ++ (⟨#[32, 78, 79, 84]⟩ : ByteArray).data.toList).length + (⟨#[32, 66, 69, 84, 87, 69, 69, 78, 32]⟩ : ByteArray).size ≤ 140737488355328 := (by have := HF.out; (try simp only [List.length_append, blen, List.size_toArray, List.length_cons, List.length_nil]); show _ + 9 ≤ _; omega); ((with_reducible refine (H2.out.str ⟨#[32, 66, 69, 84, 87, 69, 69, 78, 32]⟩ hlen).mono ?_)); go_must (rintro e w4 ⟨rfl, ho⟩; have H3 := Aside0.mk ho; clear ho hlen c2 c30 c31 c32; obtain ⟨c2, c30, c31, c32⟩ := H3.out.facts)))
 clear c2 c30 c31 c32;obtain ⟨c2, c30, c31, c32⟩ := H3.out.facts;have ce : w4.cell? ⟨ad.block, ad.off + 1, none⟩ = some v1 := xx ad 1 (by decide) ▸ H3.out.elem E1.out
 go_still_tail 5, (by kernel_rfl)
 change wpList _ _ _ _ _ w4.drew;replace H3 := Aside0.mk H3.out.drew;generalize w4.drew = w5 at *;clear c2 c30 c31 c32 ce
 go_upto_region 13 with (first
  | (go_at_call 152; have hfit : Fits (l ++ S0 ++ (⟨#[32, 78, 79, 84]⟩ : ByteArray).data.toList ++ (⟨#[32, 66, 69, 84, 87, 69, 69, 78, 32]⟩ : ByteArray).data.toList) d (max m (d + (D0 : Int))) (opd 5 t1 (shw t1).1) (opdD 5 t1 (dep t1)) := (by have := HF.out; unfold Fits; rw [← ag.out.1, ← ag.out.2]; (try simp only [List.length_append, blen, List.size_toArray, List.length_cons, List.length_nil]); omega); ((with_reducible refine (H3.out.tree bc.out 5 hfit).mono ?_)); go_must (rintro e w6 ⟨rfl, ho⟩; rw [← ag.out.1, ← ag.out.2] at ho; have H4 := Aside0.mk ho; clear ho hfit; obtain ⟨c2, c30, c31, c32⟩ := H4.out.facts))
  | (go_at_call 62; have hlen : (l ++ S0 ++ (⟨#[32, 78, 79, 84]⟩ : ByteArray).data.toList ++ (⟨#[32, 66, 69, 84, 87, 69, 69, 78, 32]⟩ : ByteArray).data.toList ++ S1).length + (⟨#[32, 65, 78, 68, 32]⟩ : ByteArray).size ≤ 140737488355328 := (by have := HF.out; (try simp only [List.length_append, blen, List.size_toArray, List.length_cons, List.length_nil]); show _ + 5 ≤ _; omega); ((with_reducible refine (H4.out.str ⟨#[32, 65, 78, 68, 32]⟩ hlen).mono ?_)); go_must (rintro e w7 ⟨rfl, ho⟩; have H5 := Aside0.mk ho; clear ho hlen c2 c30 c31 c32; obtain ⟨c2, c30, c31, c32⟩ := H5.out.facts)))
 clear c2 c30 c31 c32;obtain ⟨c2, c30, c31, c32⟩ := H5.out.facts;have ce : w7.cell? ⟨ad.block, ad.off + 2, none⟩ = some v2 := xx ad 2 (by decide) ▸ H5.out.elem E2.out
 go_still_tail 5, (by kernel_rfl)
 change wpList _ _ _ _ _ w7.drew;replace H5 := Aside0.mk H5.out.drew;generalize w7.drew = w8 at *;clear c2 c30 c31 c32 ce
 go_wp2_with (first
  | (go_at_call 152; have hfit : Fits (l ++ S0 ++ (⟨#[32, 78, 79, 84]⟩ : ByteArray).data.toList ++ (⟨#[32, 66, 69, 84, 87, 69, 69, 78, 32]⟩ : ByteArray).data.toList ++ S1 ++ (⟨#[32, 65, 78, 68, 32]⟩ : ByteArray).data.toList) d (max (max m (d + (D0 : Int))) (d + (D1 : Int))) (opd 5 t2 (shw t2).1) (opdD 5 t2 (dep t2)) := (by have := HF.out; unfold Fits; rw [← ah.out.1, ← ah.out.2]; (try simp only [List.length_append, blen, List.size_toArray, List.length_cons, List.length_nil]); omega); ((with_reducible refine (H5.out.tree bd.out 5 hfit).mono ?_)); go_must (rintro e w9 ⟨rfl, ho⟩; rw [← ah.out.1, ← ah.out.2] at ho; have H6 := Aside0.mk ho; clear ho hfit; obtain ⟨c2, c30, c31, c32⟩ := H6.out.facts)))
 go_end0
 refine ⟨rfl, ?_⟩;have h9 := HA.out.next H6.out.po
 have eM : max (max (max m (d + (D0 : Int))) (d + (D1 : Int))) (d + (D2 : Int)) = M := by have := HM.out; omega
 rw [eM] at h9;rw [HO.out];simp only [List.append_assoc, List.cons_append, List.nil_append] at h9 ⊢
 exact h9
theorem cut_tail (ad : Addr) (n c : Nat) (h1 : 1 ≤ n) (h2 : n < c) (W : World) : (Instr.slice 248 (.slice (some ad) (n + 1) c) (some (.int .i64 1)) none none).run Tryz.prog W = .ok (.slice (some ⟨ad.block, ad.off + 1, none⟩) n (c - 1)) W := by
 obtain ⟨i, hi, hs⟩ : ∃ i, Tryz.prog.info? 227 = some i ∧ i.size = 1 := by
  have q : (Tryz.prog.info? 227).map (·.size) = some 1 := by kernel_rfl
  cases hh : Tryz.prog.info? 227 with
  | none => rw [hh] at q; cases q
  | some i => rw [hh] at q; exact ⟨i, rfl, by simpa using q⟩
 have h := vE (P := Tryz.prog) 248 227 .i64 (by kernel_rfl) hi 1 hs (some ad) (n + 1) c 1 (by omega) (by omega) W;have e : (1 : Int).toNat = 1 := rfl;rw [e, if_neg (by omega : ¬ c = 1)] at h;rw [h];have e3 : ad.add 1 = ⟨ad.block, ad.off + 1, none⟩ := xx ad 1 (by decide);simp only [Option.map, Nat.one_mul, Nat.add_sub_cancel, e3]
theorem eg57 : ∀ args w, (callFunc 195 args).run Tryz.prog w = .ok (.enter 195 args) w := enters_of Tryz.func195 (by kernel_rfl) rfl
set_option maxHeartbeats 4000000 in
set_option maxRecDepth 100000 in
theorem in_clo (W0 w : World) (b g3 g4 : Nat) (l : List UInt8) (d m : Int) (op : Int) (nt : Bool) (ad : Addr) (c : Nat) (vs : List Value) (ts : List Tr) (hr : RowV W0 (some ⟨ad.block, ad.off + 1, none⟩) vs) (hK : AllOK W0 vs ts) (ae : 1 ≤ ts.length) (hn : ts.length ≤ 1000000000) (hc : ts.length < c)
 (h : PW W0 b l d m w) (hf : Fits l d m ([32, 73, 78, 32, 40] ++ (lstL (its ts) ++ [41])) (mxl ts))
 (k3 : w.heap[g3]? = some (.cells #[.pointer (some ⟨b, 0, none⟩)] 229 (0, 0))) (k4 : w.heap[g4]? = some (.cells #[.int .i64 op, .bool nt, .slice (some ad) (ts.length + 1) c] 263 (0, 0))) (n3 : g3 ≠ b) (n4 : g4 ≠ b) :
 Calls Tryz.prog 195 #[.pointer (some ⟨g3, 0, none⟩), .pointer (some ⟨g4, 0, none⟩)] w fun e w' => e = .returned (.tuple #[]) ∧ PO W0 b (l ++ ([32, 73, 78, 32, 40] ++ (lstL (its ts) ++ [41]))) d (max m (d + mxl ts)) w w' := by
 have HP := Aside0.mk (PO.start h);have HR := Aside0.mk hr;have HK := Aside0.mk hK;have H3 := Aside0.mk k3;have H4 := Aside0.mk k4;have N3 := Aside0.mk n3;have N4 := Aside0.mk n4;have c3 : w.cell? ⟨g3, 0, none⟩ = some (.pointer (some ⟨b, 0, none⟩)) := (qa k3 0).trans rfl;have HC := Aside0.mk (cut_tail ad ts.length c ae hc);have HN := Aside0.mk hn;have HF : Aside0 (l.length + 6 + (lstL (its ts)).length ≤ 140737488355328 ∧ 0 ≤ d ∧ d + mxl ts ≤ 1000000000 ∧ d ≤ m ∧ m ≤ 1000000000) := ⟨by unfold Fits at hf; simp only [List.length_append, List.length_cons, List.length_nil] at hf; omega⟩;obtain ⟨out, ho⟩ : ∃ out, out = l ++ ([32, 73, 78, 32, 40] ++ (lstL (its ts) ++ [41])) := ⟨_, rfl⟩;rw [← ho];have HO := Aside0.mk ho;clear h hf k3 k4 n3 n4 hr hK hn hc ae ho
 go_enter Tryz.func195, Tryz.ntmps195
 go_upto_region 1 with (go_at_call 62; have hlen : l.length + (⟨#[32, 73, 78, 32, 40]⟩ : ByteArray).size ≤ 140737488355328 := (by have := HF.out; show _ + 5 ≤ _; omega); ((with_reducible refine (HP.out.str ⟨#[32, 73, 78, 32, 40]⟩ hlen).mono ?_)); go_must (rintro e w1 ⟨rfl, ho⟩; have ab := Aside0.mk ho; clear ho hlen))
 clear c3;have c3 : w1.cell? ⟨g3, 0, none⟩ = some (.pointer (some ⟨b, 0, none⟩)) := (qa (ab.out.keeps H3.out N3.out (by decide)) 0).trans rfl;have c4 : w1.cell? ⟨g4, 2, none⟩ = some (.slice (some ad) (ts.length + 1) c) := (qa (ab.out.keeps H4.out N4.out (by decide)) 2).trans rfl;have cut := HC.out
 go_still_tail 4, (by kernel_rfl)
 change wpList _ _ _ _ _ w1.drew;have af := Aside0.mk (ab.out.below (qb (Below.refl _ _)));generalize w1.drew = w2 at *;clear c3 c4 cut;have al : Aside0 (Fits (l ++ [32, 73, 78, 32, 40]) d m (lstL (its ts)) (mxl ts)) := ⟨by have := HF.out; unfold Fits; simp only [List.length_append, List.length_cons, List.length_nil]; omega⟩
 go_upto_region 2 with (go_at_call 189; ((with_reducible refine (list_calls W0 w2 b (l ++ [32, 73, 78, 32, 40]) d m _ (c - 1) vs ts HR.out HK.out HN.out af.out.ps al.out).mono ?_)); go_must (rintro e w3 ⟨rfl, ho⟩; have ag := Aside0.mk (af.out.next ho); clear ho))
 have c3 : w3.cell? ⟨g3, 0, none⟩ = some (.pointer (some ⟨b, 0, none⟩)) := (qa (ag.out.keeps H3.out N3.out (by decide)) 0).trans rfl
 go_wp2_with (go_at_call 173; go_must (refine (ag.out.byte 41 (by have := HF.out; simp only [List.length_append, List.length_cons, List.length_nil]; omega)).mono ?_; rintro e w4 ⟨rfl, ho⟩; have am := Aside0.mk ho; clear ho))
 go_end0
 refine ⟨rfl, ?_⟩;have h9 := am.out;rw [HO.out];simp only [List.append_assoc, List.cons_append, List.nil_append] at h9 ⊢
 exact h9
set_option maxHeartbeats 4000000 in
set_option maxRecDepth 100000 in
theorem matched_in (W0 w : World) (b : Nat) (l : List UInt8) (d m : Int) (ad : Addr) (c : Nat) (v0 : Value) (t0 : Tr) (vs : List Value) (ts : List Tr) (h0 : W0.cell? (ad.add 0) = some v0) (ai : zH W0 v0 t0)
 (hr : RowV W0 (some ⟨ad.block, ad.off + 1, none⟩) vs) (hK : AllOK W0 vs ts) (aj : 1 ≤ ts.length) (hn : ts.length ≤ 1000000000) (hc : ts.length < c) (h : PW W0 b l d m w)
 (hf : Fits l d m (opd 5 t0 (shw t0).1 ++ (([32, 73, 78, 32, 40] ++ (lstL (its ts) ++ [41])))) (max (opdD 5 t0 (dep t0)) (1 + mxl ts))) :
 Calls Tryz.prog 187 #[.pointer (some ⟨b, 0, none⟩), .agg #[.int .i64 27, .bool false, .slice (some ad) (ts.length + 1) c]] w fun e w' => e = .returned (.tuple #[]) ∧ PO W0 b (l ++ (opd 5 t0 (shw t0).1 ++ (([32, 73, 78, 32, 40] ++ (lstL (its ts) ++ [41]))))) d (max m (d + ((max (opdD 5 t0 (dep t0)) (1 + mxl ts) : Nat) : Int))) w w' := by
 have HA := Aside0.mk ((PO.start h).below (q8 (q8 (Below.refl w.heap.size w) (.cells #[.pointer (some ⟨b, 0, none⟩)] 229)) (.cells #[.int .i64 27, .bool false, .slice (some ad) (ts.length + 1) c] 263)));have H0 := Aside0.mk (vI 27 false ad (ts.length + 1) c h);obtain ⟨S0, ag⟩ : ∃ S, S = opd 5 t0 (shw t0).1 := ⟨_, rfl⟩;obtain ⟨D0, ah⟩ : ∃ D, D = opdD 5 t0 (dep t0) := ⟨_, rfl⟩;rw [← ag, ← ah] at hf ⊢;obtain ⟨out, ho⟩ : ∃ out, out = l ++ (S0 ++ (([32, 73, 78, 32, 40] ++ (lstL (its ts) ++ [41])))) := ⟨_, rfl⟩;obtain ⟨M, hM⟩ : ∃ M, M = max m (d + ((max D0 (1 + mxl ts) : Nat) : Int)) := ⟨_, rfl⟩;rw [← ho, ← hM];have HO := Aside0.mk ho;have HM := Aside0.mk hM;have ac := Aside0.mk (And.intro ag ah);have ao := Aside0.mk ai;have E0 := Aside0.mk h0;have HR := Aside0.mk hr;have HK := Aside0.mk hK;have HN := Aside0.mk (And.intro aj (And.intro hn hc));have HF : Aside0 (l.length + S0.length + 0 + 6 + (lstL (its ts)).length ≤ 140737488355328 ∧ 0 ≤ d ∧ d + D0 ≤ 1000000000 ∧ d + 1 + mxl ts ≤ 1000000000 ∧ d ≤ m ∧ m ≤ 1000000000) := ⟨by unfold Fits at hf; simp only [List.length_append, List.length_cons, List.length_nil] at hf; omega⟩;clear h hf ho hM ag ah ai h0 hr hK aj hn hc
 go_enter Tryz.func187, Tryz.ntmps187
 go_upto_region 1 with (fail)
 generalize ((w.alloc (.cells #[.pointer (some ⟨b, 0, none⟩)] 229)).alloc (.cells #[.int .i64 27, .bool false, .slice (some ad) (ts.length + 1) c] 263)) = w0 at *;generalize w.heap.size = g at *;obtain ⟨c2, c30, c31, c32⟩ := H0.out.facts;have ce : w0.cell? ad = some v0 := zy ad ▸ H0.out.elem E0.out
 go_still_tail 5, (by kernel_rfl)
 change wpList _ _ _ _ _ w0.drew;replace H0 := Aside0.mk H0.out.drew;generalize w0.drew = w1 at *;clear c2 c30 c31 c32 ce
 go_wp2_with (first
  | (go_at_call 152; have hfit : Fits (l) d (m) (opd 5 t0 (shw t0).1) (opdD 5 t0 (dep t0)) := (by have := HF.out; unfold Fits; rw [← ac.out.1, ← ac.out.2]; omega); ((with_reducible refine (H0.out.tree ao.out 5 hfit).mono ?_)); go_must (rintro e w2 ⟨rfl, ho⟩; rw [← ac.out.1, ← ac.out.2] at ho; have H1 := Aside0.mk ho; clear ho hfit; obtain ⟨c2, c30, c31, c32⟩ := H1.out.facts))
  | (go_at_call 171; ((with_reducible refine (xL W0 w2 b (l ++ S0) ((l ++ S0) ++ ([32, 73, 78, 32, 40] ++ (lstL (its ts) ++ [41]))) d (max m (d + (D0 : Int))) (mxl ts) 195 #[.pointer (some ⟨g, 0, none⟩), .pointer (some ⟨g + 1, 0, none⟩)] H1.out.po.ps (by have := HF.out; omega) (by have := HF.out; omega) eg57 ?_).mono ?_))))
 · intro wa ha
   refine (in_clo W0 wa b g (g + 1) (l ++ S0) (d + 1) (max (max m (d + (D0 : Int))) (d + 1)) 27 false ad c vs ts HR.out HK.out HN.out.1 HN.out.2.1 HN.out.2.2 ha.ps ?_ (ha.keeps (H1.out.po.keeps H1.out.k2 H1.out.nb.1 (by decide)) H1.out.nb.1 (by decide)) (ha.keeps (H1.out.po.keeps H1.out.k3 H1.out.nb.2 (by decide)) H1.out.nb.2 (by decide)) H1.out.nb.1 H1.out.nb.2).mono ?_
   · have := HF.out; unfold Fits; (try simp only [List.length_append, blen, List.size_toArray, List.length_cons, List.length_nil]); omega
   · rintro e wb ⟨rfl, ho⟩
     exact ⟨rfl, ha.next ho⟩
 · rintro e wa ⟨rfl, ho⟩
   go_wp2
   go_end0
   refine ⟨rfl, ?_⟩;have h9 := HA.out.next (H1.out.po.next ho)
   have eM : max (max m (d + (D0 : Int))) (d + 1 + (mxl ts : Int)) = M := by have := HM.out; omega
   rw [eM] at h9;rw [HO.out];simp only [List.append_assoc, List.cons_append, List.nil_append] at h9 ⊢
   exact h9
set_option maxHeartbeats 4000000 in
set_option maxRecDepth 100000 in
theorem matched_in_not (W0 w : World) (b : Nat) (l : List UInt8) (d m : Int) (ad : Addr) (c : Nat) (v0 : Value) (t0 : Tr) (vs : List Value) (ts : List Tr) (h0 : W0.cell? (ad.add 0) = some v0) (am : zH W0 v0 t0)
 (hr : RowV W0 (some ⟨ad.block, ad.off + 1, none⟩) vs) (hK : AllOK W0 vs ts) (an : 1 ≤ ts.length) (hn : ts.length ≤ 1000000000) (hc : ts.length < c) (h : PW W0 b l d m w)
 (hf : Fits l d m (opd 5 t0 (shw t0).1 ++ ([32, 78, 79, 84] ++ ([32, 73, 78, 32, 40] ++ (lstL (its ts) ++ [41])))) (max (opdD 5 t0 (dep t0)) (1 + mxl ts))) :
 Calls Tryz.prog 187 #[.pointer (some ⟨b, 0, none⟩), .agg #[.int .i64 27, .bool true, .slice (some ad) (ts.length + 1) c]] w fun e w' => e = .returned (.tuple #[]) ∧ PO W0 b (l ++ (opd 5 t0 (shw t0).1 ++ ([32, 78, 79, 84] ++ ([32, 73, 78, 32, 40] ++ (lstL (its ts) ++ [41]))))) d (max m (d + ((max (opdD 5 t0 (dep t0)) (1 + mxl ts) : Nat) : Int))) w w' := by
 have HA := Aside0.mk ((PO.start h).below (q8 (q8 (Below.refl w.heap.size w) (.cells #[.pointer (some ⟨b, 0, none⟩)] 229)) (.cells #[.int .i64 27, .bool true, .slice (some ad) (ts.length + 1) c] 263)));have H0 := Aside0.mk (vI 27 true ad (ts.length + 1) c h);obtain ⟨S0, ag⟩ : ∃ S, S = opd 5 t0 (shw t0).1 := ⟨_, rfl⟩;obtain ⟨D0, ah⟩ : ∃ D, D = opdD 5 t0 (dep t0) := ⟨_, rfl⟩;rw [← ag, ← ah] at hf ⊢;obtain ⟨out, ho⟩ : ∃ out, out = l ++ (S0 ++ ([32, 78, 79, 84] ++ ([32, 73, 78, 32, 40] ++ (lstL (its ts) ++ [41])))) := ⟨_, rfl⟩;obtain ⟨M, hM⟩ : ∃ M, M = max m (d + ((max D0 (1 + mxl ts) : Nat) : Int)) := ⟨_, rfl⟩;rw [← ho, ← hM];have HO := Aside0.mk ho;have HM := Aside0.mk hM;have ae := Aside0.mk (And.intro ag ah);have a3 := Aside0.mk am;have E0 := Aside0.mk h0;have HR := Aside0.mk hr;have HK := Aside0.mk hK;have HN := Aside0.mk (And.intro an (And.intro hn hc));have HF : Aside0 (l.length + S0.length + 4 + 6 + (lstL (its ts)).length ≤ 140737488355328 ∧ 0 ≤ d ∧ d + D0 ≤ 1000000000 ∧ d + 1 + mxl ts ≤ 1000000000 ∧ d ≤ m ∧ m ≤ 1000000000) := ⟨by unfold Fits at hf; simp only [List.length_append, List.length_cons, List.length_nil] at hf; omega⟩;clear h hf ho hM ag ah am h0 hr hK an hn hc
 go_enter Tryz.func187, Tryz.ntmps187
 go_upto_region 1 with (fail)
 generalize ((w.alloc (.cells #[.pointer (some ⟨b, 0, none⟩)] 229)).alloc (.cells #[.int .i64 27, .bool true, .slice (some ad) (ts.length + 1) c] 263)) = w0 at *;generalize w.heap.size = g at *;obtain ⟨c2, c30, c31, c32⟩ := H0.out.facts;have ce : w0.cell? ad = some v0 := zy ad ▸ H0.out.elem E0.out
 go_still_tail 5, (by kernel_rfl)
 change wpList _ _ _ _ _ w0.drew;replace H0 := Aside0.mk H0.out.drew;generalize w0.drew = w1 at *;clear c2 c30 c31 c32 ce;obtain ⟨L2, ao⟩ : ∃ L, L = l ++ S0 ++ (⟨#[32, 78, 79, 84]⟩ : ByteArray).data.toList := ⟨_, rfl⟩;obtain ⟨M1, ap⟩ : ∃ M, M = max m (d + (D0 : Int)) := ⟨_, rfl⟩;obtain ⟨O2, au⟩ : ∃ O, O = L2 ++ ([32, 73, 78, 32, 40] ++ (lstL (its ts) ++ [41])) := ⟨_, rfl⟩;obtain ⟨M2, av⟩ : ∃ M, M = d + 1 + (mxl ts : Int) := ⟨_, rfl⟩;have ai := Aside0.mk ao;have ac := Aside0.mk ap;have aw := Aside0.mk au;have ax := Aside0.mk av;clear ao ap au av
 go_wp2_with (first
  | (go_at_call 152; have hfit : Fits (l) d (m) (opd 5 t0 (shw t0).1) (opdD 5 t0 (dep t0)) := (by have := HF.out; unfold Fits; rw [← ae.out.1, ← ae.out.2]; omega); ((with_reducible refine (H0.out.tree a3.out 5 hfit).mono ?_)); go_must (rintro e w2 ⟨rfl, ho⟩; rw [← ae.out.1, ← ae.out.2] at ho; have H1 := Aside0.mk ho; clear ho hfit; obtain ⟨c2, c30, c31, c32⟩ := H1.out.facts))
  | (go_at_call 62; have hlen : (l ++ S0).length + (⟨#[32, 78, 79, 84]⟩ : ByteArray).size ≤ 140737488355328 := (by have := HF.out; simp only [List.length_append]; show _ + 4 ≤ _; omega); ((with_reducible refine (H1.out.str ⟨#[32, 78, 79, 84]⟩ hlen).mono ?_)); go_must (rintro e w3 ⟨rfl, ho⟩; rw [← ai.out, ← ac.out] at ho; have H2 := Aside0.mk ho; clear ho hlen c2 c30 c31 c32; obtain ⟨c2, c30, c31, c32⟩ := H2.out.facts))
  | (go_at_call 171; have hnest : Calls Tryz.prog 171 #[.pointer (some ⟨b, 0, none⟩), .func (.func 195) #[] #[.pointer (some ⟨g, 0, none⟩), .pointer (some ⟨g + 1, 0, none⟩)]] w3 (fun e w' => e = .returned (.tuple #[]) ∧ PO W0 b O2 d (max M1 M2) w3 w') := (by
   rw [aw.out, ax.out];refine xL W0 w3 b L2 (L2 ++ ([32, 73, 78, 32, 40] ++ (lstL (its ts) ++ [41]))) d M1 (mxl ts) 195 #[.pointer (some ⟨g, 0, none⟩), .pointer (some ⟨g + 1, 0, none⟩)] H2.out.po.ps (by have := HF.out; have := ac.out; omega) (by have := HF.out; have := ac.out; omega) eg57 ?_;intro wa ha;refine (in_clo W0 wa b g (g + 1) L2 (d + 1) (max M1 (d + 1)) 27 true ad c vs ts HR.out HK.out HN.out.1 HN.out.2.1 HN.out.2.2 ha.ps ?_ (ha.keeps (H2.out.po.keeps H2.out.k2 H2.out.nb.1 (by decide)) H2.out.nb.1 (by decide)) (ha.keeps (H2.out.po.keeps H2.out.k3 H2.out.nb.2 (by decide)) H2.out.nb.2 (by decide)) H2.out.nb.1 H2.out.nb.2).mono ?_
   · have := HF.out; have := ac.out; have := congrArg List.length ai.out; unfold Fits; (simp only [List.length_append, blen, List.size_toArray, List.length_cons, List.length_nil] at *); omega
   · rintro e wb ⟨rfl, ho⟩
     exact ⟨rfl, ha.next ho⟩); ((with_reducible refine hnest.mono ?_)); go_must (rintro e wa ⟨rfl, ho⟩; have HZ := Aside0.mk ho; clear ho hnest c2 c30 c31 c32)))
 go_end0
 refine ⟨rfl, ?_⟩;have h9 := HA.out.next (H2.out.po.next HZ.out)
 have eM : max M1 M2 = M := by have := HM.out; have := ac.out; have := ax.out; omega
 rw [eM, aw.out, ai.out] at h9;rw [HO.out];simp only [List.append_assoc, List.cons_append, List.nil_append] at h9 ⊢
 exact h9
def whL : Nat → List (Tr × Tx) → List UInt8
 | _, [] => []
 | i, p :: r => (if i % 2 = 0 then [32, 87, 72, 69, 78, 32] else [32, 84, 72, 69, 78, 32]) ++ opd 1 p.1 p.2.1 ++ whL (i + 1) r
theorem whL_two : ∀ (l : List (Tr × Tx)) (i : Nat), whL (i + 2) l = whL i l
 | [], _ => rfl
 | p :: r, i => by
  have h : (i + 2) % 2 = i % 2 := by omega
  simp only [whL, h];rw [show i + 2 + 1 = i + 1 + 2 from rfl, whL_two r (i + 1)]
theorem whenL_eq : ∀ (l : List (Tr × Tx)), whenL l = whL 0 l
 | [] => rfl
 | [p] => by simp [whenL, whL]
 | p :: q :: r => by
  have h := whL_two r 0;simp only [whenL, whL, whenL_eq r, Nat.zero_add] at h ⊢;rw [← h]
  simp
theorem whL_app : ∀ (a b : List (Tr × Tx)) (i : Nat), whL i (a ++ b) = whL i a ++ whL (i + a.length) b
 | [], b, i => by simp [whL]
 | p :: r, b, i => by
  have h := whL_app r b (i + 1)
  have e : i + (r.length + 1) = i + 1 + r.length := by omega
  simp only [List.cons_append, whL, h, List.length_cons, List.append_assoc, e]
theorem whL_one (l : List (Tr × Tx)) (k : Nat) (hk : k < l.length) : whL 0 (l.take (k + 1)) = whL 0 (l.take k) ++ ((if k % 2 = 0 then [32, 87, 72, 69, 78, 32] else [32, 84, 72, 69, 78, 32]) ++ opd 1 (l[k]).1 (l[k]).2.1) := by
 rw [List.take_succ_eq_append_getElem hk, whL_app]
 have : (l.take k).length = k := by rw [List.length_take]; omega
 simp [whL, this]
theorem whL_len (l : List (Tr × Tx)) (k q : Nat) (h : k ≤ q) : (whL 0 (l.take k)).length ≤ (whL 0 (l.take q)).length := by
 have e : l.take q = (l.take q).take k ++ (l.take q).drop k := (List.take_append_drop _ _).symm;rw [e, whL_app, List.take_take, Nat.min_eq_left h, List.length_append]
 omega
theorem cut_head (ad : Addr) (n c : Nat) (h2 : n < c) (W : World) : (Instr.slice 248 (.slice (some ad) (n + 1) c) none (some (.int .i64 (n : Int))) none).run Tryz.prog W = .ok (.slice (some ad) n c) W := by
 obtain ⟨i, hi⟩ : ∃ i, Tryz.prog.info? 227 = some i := by
  have q : (Tryz.prog.info? 227).map (·.size) = some 1 := by kernel_rfl
  cases hh : Tryz.prog.info? 227 with
  | none => rw [hh] at q; cases q
  | some i => exact ⟨i, rfl⟩
 have h := cut_to (P := Tryz.prog) 248 227 .i64 (by kernel_rfl) hi (some ad) (n + 1) c (n : Int) (by omega) (by omega) (by omega) W;rw [h]
 rfl
def vj (ts : List Tr) (q : Nat) : List UInt8 := [67, 65, 83, 69] ++ (whL 0 ((its ts).take q) ++ ([32, 69, 76, 83, 69, 32] ++ (opd 1 (kid ts q) (shw (kid ts q)).1 ++ [32, 69, 78, 68])))
set_option maxHeartbeats 4000000 in
set_option maxRecDepth 100000 in
theorem choice_calls (W0 w : World) (b : Nat) (l : List UInt8) (d m : Int) (ad : Addr) (c : Nat) (vs : List Value) (ts : List Tr) (q : Nat) (hq : ts.length = q + 1) (hn : ts.length ≤ 1000000000) (hc : q < c) (hr : ∀ (i : Nat) v, vs[i]? = some v → W0.cell? (ad.add i) = some v) (hK : AllOK W0 vs ts) (h : PW W0 b l d m w) (hf : Fits l d m (vj ts q) (mxl ts)) :
 Calls Tryz.prog 191 #[.pointer (some ⟨b, 0, none⟩), .agg #[.slice (some ad) (q + 1) c]] w fun e w' => e = .returned (.tuple #[]) ∧ PO W0 b (l ++ vj ts q) d (max m (d + mxl ts)) w w' := by
 have HA := Aside0.mk ((PO.start h).below (q8 (Below.refl w.heap.size w) (.cells #[.slice (some ad) (q + 1) c] 273)));have HP := Aside0.mk (PO.start HA.out.ps);have NB := Aside0.mk (show w.heap.size ≠ b by have := h.wr.lt; omega);have K3 := Aside0.mk (qL w (.cells #[.slice (some ad) (q + 1) c] 273));have HR := Aside0.mk hr;have HK := Aside0.mk hK;have HF := Aside0.mk hf;have HC := Aside0.mk (cut_head ad q c hc);have HQ := Aside0.mk hq
 have hqb : q ≤ 1000000000 := by omega
 clear h hr hK hf hc hq hn;generalize a2 : w.alloc (.cells #[.slice (some ad) (q + 1) c] 273) = w0 at HA HP K3
 go_enter Tryz.func191, Tryz.ntmps191
 go_upto_region 1 with (fail)
 have c3 : w0.cell? ⟨w.heap.size, 0, none⟩ = some (.slice (some ad) (q + 1) c) := (qa K3.out 0).trans rfl
 go_upto_region 3 with (go_at_call 62; go_must (refine (HP.out.str ⟨#[67, 65, 83, 69]⟩ (by have := HF.out.1; unfold vj at this; simp only [List.length_append, List.length_cons, List.length_nil] at this; show _ + 4 ≤ _; omega)).mono ?_; rintro e w1 ⟨rfl, ho⟩; have ae := Aside0.mk ho; clear ho))
 clear c3;have c3 : w1.cell? ⟨w.heap.size, 0, none⟩ = some (.slice (some ad) (q + 1) c) := (qa (ae.out.keeps K3.out NB.out (by decide)) 0).trans rfl;have cut := HC.out;go_wp2;clear cut c3;replace ae := Aside0.mk (HP.out.next ae.out)
 go_loopw [5, 6, 20] (fun v5 v6 ai wr => ∃ k : Nat, k ≤ q ∧ ai = .int .i64 (k : Int) ∧ Aside0 (PO W0 b (l ++ [67, 65, 83, 69] ++ whL 0 ((its ts).take k)) d (max m (d + mxl (ts.take k))) w0 wr)) (fun _ _ ai _ => q - (intOf ai).toNat)
 case atStart => exact ⟨0, Nat.zero_le _, rfl, ⟨by have := HF.out; unfold Fits at this; have e : max m (d + ((mxl (ts.take 0) : Nat) : Int)) = m := (by simp only [List.take_zero, mxl]; omega); rw [e]; simpa [whL] using ae.out⟩⟩
 case round =>
  clear ae;obtain ⟨k, hk, rfl, ah⟩ := hrel
  by_cases hlt : k < q
  · have d1 : decide ((k : Int) < (q : Int)) = true := decide_eq_true (by omega)
    have d9 : (k : Int) < (q : Int) := by omega
    have ab : k < ts.length := by rw [HQ.out]; omega
    have hvl : k < vs.length := by rw [HK.out.1]; exact ab
    have g0 : W0.cell? (ad.add k) = some vs[k] := HR.out k _ (List.getElem?_eq_getElem hvl);replace g0 := (ah.out.ps.be.cell (World.block_lt_of_cell? W0 _ g0)).trans g0;have HT := Aside0.mk (HK.out.2 k _ _ (List.getElem?_eq_getElem hvl) (List.getElem?_eq_getElem ab))
    have hi : k < (its ts).length := by rw [vi]; exact ab
    have h1 := whL_one (its ts) k hi;rw [its_at ts k ab] at h1;have HX := Aside0.mk h1;have HM := Aside0.mk (mxl_take ts k ab);have HL := Aside0.mk (whL_len (its ts) (k + 1) q (by omega));have HD := Aside0.mk (mxl_le ts (k + 1));generalize vs[k] = v at *;generalize ts[k] = t at *;clear h1 hi hvl ab
    by_cases am : k % 2 = 0
    · rw [if_pos am] at HX
      have e2 : Int.tmod (k : Int) 2 = 0 := by rw [Int.tmod_eq_emod_of_nonneg (by omega)]; omega
      have ac : Aside0 (Fits (l ++ [67, 65, 83, 69] ++ whL 0 ((its ts).take k) ++ [32, 87, 72, 69, 78, 32]) d (max m (d + mxl (ts.take k))) (opd 1 t (shw t).1) (opdD 1 t (dep t))) := ⟨by
       have h1 := HF.out; have h2 := HL.out; have h3 := HX.out; have h4 := HM.out; have h5 := HD.out
       unfold Fits vj at h1;unfold Fits;rw [h3] at h2;simp only [List.length_append, List.length_cons, List.length_nil] at h1 h2 ⊢
       omega⟩
      go_upto_region 6 with (fail)
      go_region_with (first
       | (go_at_call 62; go_must (refine ((ah.out.below (show Below wr.heap.size wr _ from (by first | exact q9 (q8 (Below.refl _ _) _) _ | exact q8 (q9 (Below.refl _ _) _) _ | exact qb (q8 (Below.refl _ _) _) | exact q8 (qb (Below.refl _ _)) _ | exact q8 (Below.refl _ _) _ | (trace_state; fail)))).str ⟨#[32, 87, 72, 69, 78, 32]⟩ (by have := ac.out.1; simp only [List.length_append, List.length_cons, List.length_nil] at this ⊢; show _ + 6 ≤ _; omega)).mono ?_; rintro e w3 ⟨rfl, ho⟩; have aa := Aside0.mk ho; clear ho)))
      all_goals (
       go_wp2_with (first
        | (go_at_call 152; go_must (refine (HT.out _ b (l ++ [67, 65, 83, 69] ++ whL 0 ((its ts).take k) ++ [32, 87, 72, 69, 78, 32]) d (max m (d + mxl (ts.take k))) 1 aa.out.ps ac.out).mono ?_; rintro e w4 ⟨rfl, ho⟩; have ag := Aside0.mk (aa.out.next ho); clear ho)))
       go_roundw
       case rel =>
        refine ⟨k + 1, by omega, by go_num, ⟨?_⟩⟩;rw [HX.out, HM.out]
        have e : max m (d + ((max (mxl (ts.take k)) (opdD 1 t (dep t)) : Nat) : Int)) = max (max m (d + (mxl (ts.take k) : Int))) (d + (opdD 1 t (dep t) : Int)) := by omega
        rw [e]
        simpa only [List.append_assoc] using ag.out
       case measure => simp [intOf]; omega)
    · rw [if_neg am] at HX
      have e2 : Int.tmod (k : Int) 2 = 1 := by rw [Int.tmod_eq_emod_of_nonneg (by omega)]; omega
      have ac : Aside0 (Fits (l ++ [67, 65, 83, 69] ++ whL 0 ((its ts).take k) ++ [32, 84, 72, 69, 78, 32]) d (max m (d + mxl (ts.take k))) (opd 1 t (shw t).1) (opdD 1 t (dep t))) := ⟨by
       have h1 := HF.out; have h2 := HL.out; have h3 := HX.out; have h4 := HM.out; have h5 := HD.out
       unfold Fits vj at h1;unfold Fits;rw [h3] at h2;simp only [List.length_append, List.length_cons, List.length_nil] at h1 h2 ⊢
       omega⟩
      go_upto_region 6 with (fail)
      go_region_with (first
       | (go_at_call 62; go_must (refine ((ah.out.below (show Below wr.heap.size wr _ from (by first | exact q9 (q8 (Below.refl _ _) _) _ | exact q8 (q9 (Below.refl _ _) _) _ | exact qb (q8 (Below.refl _ _) _) | exact q8 (qb (Below.refl _ _)) _ | exact q8 (Below.refl _ _) _ | (trace_state; fail)))).str ⟨#[32, 84, 72, 69, 78, 32]⟩ (by have := ac.out.1; simp only [List.length_append, List.length_cons, List.length_nil] at this ⊢; show _ + 6 ≤ _; omega)).mono ?_; rintro e w3 ⟨rfl, ho⟩; have aa := Aside0.mk ho; clear ho)))
      all_goals (
       go_wp2_with (first
        | (go_at_call 152; go_must (refine (HT.out _ b (l ++ [67, 65, 83, 69] ++ whL 0 ((its ts).take k) ++ [32, 84, 72, 69, 78, 32]) d (max m (d + mxl (ts.take k))) 1 aa.out.ps ac.out).mono ?_; rintro e w4 ⟨rfl, ho⟩; have ag := Aside0.mk (aa.out.next ho); clear ho)))
       go_roundw
       case rel =>
        refine ⟨k + 1, by omega, by go_num, ⟨?_⟩⟩;rw [HX.out, HM.out]
        have e : max m (d + ((max (mxl (ts.take k)) (opdD 1 t (dep t)) : Nat) : Int)) = max (max m (d + (mxl (ts.take k) : Int))) (d + (opdD 1 t (dep t) : Int)) := by omega
        rw [e]
        simpa only [List.append_assoc] using ag.out
       case measure => simp [intOf]; omega)
  · have d1 : decide ((k : Int) < (q : Int)) = false := decide_eq_false (by omega)
    obtain rfl : k = q := by omega
    have hvl : k < vs.length := by rw [HK.out.1, HQ.out]; omega
    have htl : k < ts.length := by rw [HQ.out]; omega
    have g0 : W0.cell? (ad.add k) = some vs[k] := HR.out k _ (List.getElem?_eq_getElem hvl);have HT := Aside0.mk (HK.out.2 k _ _ (List.getElem?_eq_getElem hvl) (List.getElem?_eq_getElem htl))
    have hX : vj ts k = [67, 65, 83, 69] ++ (whL 0 ((its ts).take k) ++ ([32, 69, 76, 83, 69, 32] ++ (opd 1 ts[k] (shw ts[k]).1 ++ [32, 69, 78, 68]))) := by unfold vj; rw [vd ts k htl]
    have hM := mxl_take ts k htl;have eT : ts.take (k + 1) = ts := List.take_of_length_le (by rw [HQ.out]; exact Nat.le_refl _);rw [eT] at hM;have HX := Aside0.mk hX;have HM := Aside0.mk hM;have HG := Aside0.mk g0;generalize vs[k] = v at *;generalize ts[k] = t at *
    have ac : Aside0 (Fits (l ++ [67, 65, 83, 69] ++ whL 0 ((its ts).take k) ++ [32, 69, 76, 83, 69, 32]) d (max m (d + mxl (ts.take k))) (opd 1 t (shw t).1) (opdD 1 t (dep t))) := ⟨by
     have h1 := HF.out;rw [hX] at h1;unfold Fits at h1 ⊢;simp only [List.length_append, List.length_cons, List.length_nil] at h1 ⊢
     omega⟩
    have av : Aside0 ((l ++ [67, 65, 83, 69] ++ whL 0 ((its ts).take k) ++ [32, 69, 76, 83, 69, 32] ++ opd 1 t (shw t).1).length + 4 ≤ 140737488355328) := ⟨by
     have h1 := HF.out;rw [hX] at h1;unfold Fits at h1;simp only [List.length_append, List.length_cons, List.length_nil] at h1 ⊢
     omega⟩
    clear hX hM eT g0 hvl htl
    go_upto_region 10 with (first
     | (go_at_call 62; go_must (refine (ah.out.str ⟨#[32, 69, 76, 83, 69, 32]⟩ (by have := ac.out.1; simp only [List.length_append, List.length_cons, List.length_nil] at this ⊢; show _ + 6 ≤ _; omega)).mono ?_; rintro e w3 ⟨rfl, ho⟩; have aa := Aside0.mk ho; clear ho)))
    have c3 : w3.cell? ⟨w.heap.size, 0, none⟩ = some (.slice (some ad) (k + 1) c) := (qa (aa.out.keeps K3.out NB.out (by decide)) 0).trans rfl;have g0 : w3.cell? (ad.add k) = some v := (aa.out.ps.be.cell (World.block_lt_of_cell? W0 _ HG.out)).trans HG.out
    have d9 : (k : Int) < (k : Int) + 1 := by omega
    go_upto_region 11 with (first
     | (go_at_call 152; go_must (refine (HT.out _ b (l ++ [67, 65, 83, 69] ++ whL 0 ((its ts).take k) ++ [32, 69, 76, 83, 69, 32]) d (max m (d + mxl (ts.take k))) 1 aa.out.ps ac.out).mono ?_; rintro e w4 ⟨rfl, ho⟩; have ag := Aside0.mk (aa.out.next ho); clear ho)))
    clear c3 g0
    go_wp2_with (first
     | (go_at_call 62; go_must (refine (ag.out.str ⟨#[32, 69, 78, 68]⟩ (by have := av.out; show _ + 4 ≤ _; omega)).mono ?_; rintro e w5 ⟨rfl, ho⟩; have aw := Aside0.mk ho; clear ho)))
    go_end0
    refine ⟨rfl, ?_⟩;have h9 := HA.out.next aw.out
    have eM : max (max m (d + (mxl (ts.take k) : Int))) (d + (opdD 1 t (dep t) : Int)) = max m (d + (mxl ts : Int)) := by have := HM.out; omega
    rw [eM] at h9;rw [HX.out];simp only [List.append_assoc, List.cons_append, List.nil_append] at h9 ⊢
    exact h9
set_option maxHeartbeats 4000000 in
set_option maxRecDepth 100000 in
theorem bare_atom (W0 w : World) (b : Nat) (l : List UInt8) (d m : Int) (s : ByteArray) (h : PW W0 b l d m w) (hf : l.length + s.size ≤ 140737488355328) :
 Calls Tryz.prog 174 #[.pointer (some ⟨b, 0, none⟩), .iface 260 (.string s)] w fun e w' => e = .returned (.tuple #[]) ∧ PO W0 b (l ++ s.data.toList) d m w w' := by
 have HP := Aside0.mk ((PO.start h).below (q8 (Below.refl w.heap.size w) (.cells #[.pointer (some ⟨b, 0, none⟩)] 229)));clear h;have q0 := ta_atom (.string s)
 go_enter Tryz.func174, Tryz.ntmps174
 go_wp2_with (first
  | (go_at_call 62; go_must (refine (HP.out.str s (by omega)).mono ?_; rintro e w1 ⟨rfl, ho⟩; have aa := Aside0.mk ho; clear ho)))
 go_end0
 exact ⟨rfl, aa.out⟩
theorem eg_ahead : ∀ args w, (callFunc 185 args).run Tryz.prog w = .ok (.enter 185 args) w := enters_of Tryz.func185 (by kernel_rfl) rfl
set_option maxHeartbeats 4000000 in
set_option maxRecDepth 100000 in
theorem clo_ahead (W0 w : World) (b g3 g4 : Nat) (l : List UInt8) (d m : Int) (op : Int) (T2 : Nat) (u2 : Value) (S : List UInt8) (D : Nat) (hA : Calls Tryz.prog 186 #[.pointer (some ⟨b, 0, none⟩), .agg #[.int .i64 op, .iface T2 u2]] w fun e w' => e = .returned (.tuple #[]) ∧ PO W0 b (l ++ S) d (max m (d + D)) w w')
 (k3 : w.heap[g3]? = some (.cells #[.pointer (some ⟨b, 0, none⟩)] 229 (0, 0))) (k4 : w.heap[g4]? = some (.cells #[.int .i64 op, .iface T2 u2] 266 (0, 0))) :
 Calls Tryz.prog 185 #[.pointer (some ⟨g3, 0, none⟩), .pointer (some ⟨g4, 0, none⟩)] w fun e w' => e = .returned (.tuple #[]) ∧ PO W0 b (l ++ S) d (max m (d + D)) w w' := by
 have c3 : w.cell? ⟨g3, 0, none⟩ = some (.pointer (some ⟨b, 0, none⟩)) := (qa k3 0).trans rfl;have ag : w.cell? ⟨g4, 0, none⟩ = some (.int .i64 op) := (qa k4 0).trans rfl;have ah : w.cell? ⟨g4, 1, none⟩ = some (.iface T2 u2) := (qa k4 1).trans rfl;have HA := Aside0.mk hA;clear hA k3 k4
 go_enter Tryz.func185, Tryz.ntmps185
 go_wp2_with (go_at_call 186; go_must (refine HA.out.mono ?_; rintro e w1 ⟨rfl, ho⟩; have af := Aside0.mk ho; clear ho))
 go_end0
 exact ⟨rfl, af.out⟩
set_option maxHeartbeats 4000000 in
set_option maxRecDepth 100000 in
theorem bare_ahead (W0 w : World) (b : Nat) (l : List UInt8) (d m : Int) (op : Int) (T2 : Nat) (u2 : Value) (S : List UInt8) (D : Nat) (hA : ∀ (w : World) (l : List UInt8) (d m : Int), PW W0 b l d m w → Fits l d m S D → Calls Tryz.prog 186 #[.pointer (some ⟨b, 0, none⟩), .agg #[.int .i64 op, .iface T2 u2]] w fun e w' => e = .returned (.tuple #[]) ∧ PO W0 b (l ++ S) d (max m (d + D)) w w') (h : PW W0 b l d m w) (hf : Fits l d m S (D + 1)) :
 Calls Tryz.prog 174 #[.pointer (some ⟨b, 0, none⟩), .iface 266 (.agg #[.int .i64 op, .iface T2 u2])] w fun e w' => e = .returned (.tuple #[]) ∧ PO W0 b (l ++ S) d (max m (d + ((D + 1 : Nat) : Int))) w w' := by
 have k3 := qe (qL w (.cells #[.pointer (some ⟨b, 0, none⟩)] 229)) (.cells #[.int .i64 op, .iface T2 u2] 266);have k4 := qL (w.alloc (.cells #[.pointer (some ⟨b, 0, none⟩)] 229)) (.cells #[.int .i64 op, .iface T2 u2] 266);rw [World.size_alloc] at k4;have hbl := h.wr.lt;have HP := Aside0.mk ((PO.start h).below (q8 (q8 (Below.refl w.heap.size w) (.cells #[.pointer (some ⟨b, 0, none⟩)] 229)) (.cells #[.int .i64 op, .iface T2 u2] 266)));have HA := Aside0.mk hA;have HF : Aside0 (Fits l (d + 1) (max m (d + 1)) S D ∧ 0 ≤ d ∧ d ≤ 1000000000 ∧ 0 ≤ m ∧ m ≤ 2000000000) := ⟨by unfold Fits at hf ⊢; omega⟩
 have hN : Calls Tryz.prog 171 #[.pointer (some ⟨b, 0, none⟩), .func (.func 185) #[] #[.pointer (some ⟨w.heap.size, 0, none⟩), .pointer (some ⟨w.heap.size + 1, 0, none⟩)]] ((w.alloc (.cells #[.pointer (some ⟨b, 0, none⟩)] 229)).alloc (.cells #[.int .i64 op, .iface T2 u2] 266)) fun e w' => e = .returned (.tuple #[]) ∧ PO W0 b (l ++ S) d (max m (d + 1 + D)) ((w.alloc (.cells #[.pointer (some ⟨b, 0, none⟩)] 229)).alloc (.cells #[.int .i64 op, .iface T2 u2] 266)) w' := by
  refine xL W0 _ b l (l ++ S) d m D 185 _ HP.out.ps ⟨HF.out.2.1, HF.out.2.2.1⟩ HF.out.2.2.2 eg_ahead ?_;intro w1 h1;refine (clo_ahead W0 w1 b w.heap.size (w.heap.size + 1) l (d + 1) (max m (d + 1)) op T2 u2 S D (HA.out w1 l _ _ h1.ps HF.out.1) (h1.keeps k3 (by omega) (by decide)) (h1.keeps k4 (by omega) (by decide))).mono ?_
  rintro e w2 ⟨rfl, ho⟩
  exact ⟨rfl, h1.next ho⟩
 have HN := Aside0.mk hN;clear hN k3 k4 h hA hf hbl;have q0 := ta_ahead_atom (.agg #[.int .i64 op, .iface T2 u2]);have q1 := ta_ahead (.agg #[.int .i64 op, .iface T2 u2])
 go_enter Tryz.func174, Tryz.ntmps174
 go_wp2_with (first
  | (go_at_call 171; go_must (refine HN.out.mono ?_; rintro e w1 ⟨rfl, ho⟩; have ae := Aside0.mk ho; clear ho)))
 go_end0
 refine ⟨rfl, ?_⟩;have h9 := HP.out.next ae.out
 have e : d + ((D + 1 : Nat) : Int) = d + 1 + (D : Int) := by omega
 first | exact e ▸ h9 | (rw [e]; exact h9) | (have e2 : max m (d + ((D : Int) + 1)) = max m (d + 1 + (D : Int)) := (by omega); rw [e2]; exact h9)
theorem eg_choice : ∀ args w, (callFunc 190 args).run Tryz.prog w = .ok (.enter 190 args) w := enters_of Tryz.func190 (by kernel_rfl) rfl
set_option maxHeartbeats 4000000 in
set_option maxRecDepth 100000 in
theorem clo_choice (W0 w : World) (b g3 g4 : Nat) (l : List UInt8) (d m : Int) (ad : Addr) (n c : Nat) (S : List UInt8) (D : Nat) (hA : Calls Tryz.prog 191 #[.pointer (some ⟨b, 0, none⟩), .agg #[.slice (some ad) n c]] w fun e w' => e = .returned (.tuple #[]) ∧ PO W0 b (l ++ S) d (max m (d + D)) w w')
 (k3 : w.heap[g3]? = some (.cells #[.pointer (some ⟨b, 0, none⟩)] 229 (0, 0))) (k4 : w.heap[g4]? = some (.cells #[.slice (some ad) n c] 273 (0, 0))) :
 Calls Tryz.prog 190 #[.pointer (some ⟨g3, 0, none⟩), .pointer (some ⟨g4, 0, none⟩)] w fun e w' => e = .returned (.tuple #[]) ∧ PO W0 b (l ++ S) d (max m (d + D)) w w' := by
 have c3 : w.cell? ⟨g3, 0, none⟩ = some (.pointer (some ⟨b, 0, none⟩)) := (qa k3 0).trans rfl;have af : w.cell? ⟨g4, 0, none⟩ = some (.slice (some ad) n c) := (qa k4 0).trans rfl;have HA := Aside0.mk hA;clear hA k3 k4
 go_enter Tryz.func190, Tryz.ntmps190
 go_wp2_with (go_at_call 191; go_must (refine HA.out.mono ?_; rintro e w1 ⟨rfl, ho⟩; have ae := Aside0.mk ho; clear ho))
 go_end0
 exact ⟨rfl, ae.out⟩
set_option maxHeartbeats 4000000 in
set_option maxRecDepth 100000 in
theorem bare_choice (W0 w : World) (b : Nat) (l : List UInt8) (d m : Int) (ad : Addr) (n c : Nat) (S : List UInt8) (D : Nat) (hA : ∀ (w : World) (l : List UInt8) (d m : Int), PW W0 b l d m w → Fits l d m S D → Calls Tryz.prog 191 #[.pointer (some ⟨b, 0, none⟩), .agg #[.slice (some ad) n c]] w fun e w' => e = .returned (.tuple #[]) ∧ PO W0 b (l ++ S) d (max m (d + D)) w w') (h : PW W0 b l d m w) (hf : Fits l d m S (D + 1)) :
 Calls Tryz.prog 174 #[.pointer (some ⟨b, 0, none⟩), .iface 273 (.agg #[.slice (some ad) n c])] w fun e w' => e = .returned (.tuple #[]) ∧ PO W0 b (l ++ S) d (max m (d + ((D + 1 : Nat) : Int))) w w' := by
 have k3 := qe (qL w (.cells #[.pointer (some ⟨b, 0, none⟩)] 229)) (.cells #[.slice (some ad) n c] 273);have k4 := qL (w.alloc (.cells #[.pointer (some ⟨b, 0, none⟩)] 229)) (.cells #[.slice (some ad) n c] 273);rw [World.size_alloc] at k4;have hbl := h.wr.lt;have HP := Aside0.mk ((PO.start h).below (q8 (q8 (Below.refl w.heap.size w) (.cells #[.pointer (some ⟨b, 0, none⟩)] 229)) (.cells #[.slice (some ad) n c] 273)));have HA := Aside0.mk hA;have HF : Aside0 (Fits l (d + 1) (max m (d + 1)) S D ∧ 0 ≤ d ∧ d ≤ 1000000000 ∧ 0 ≤ m ∧ m ≤ 2000000000) := ⟨by unfold Fits at hf ⊢; omega⟩
 have hN : Calls Tryz.prog 171 #[.pointer (some ⟨b, 0, none⟩), .func (.func 190) #[] #[.pointer (some ⟨w.heap.size, 0, none⟩), .pointer (some ⟨w.heap.size + 1, 0, none⟩)]] ((w.alloc (.cells #[.pointer (some ⟨b, 0, none⟩)] 229)).alloc (.cells #[.slice (some ad) n c] 273)) fun e w' => e = .returned (.tuple #[]) ∧ PO W0 b (l ++ S) d (max m (d + 1 + D)) ((w.alloc (.cells #[.pointer (some ⟨b, 0, none⟩)] 229)).alloc (.cells #[.slice (some ad) n c] 273)) w' := by
  refine xL W0 _ b l (l ++ S) d m D 190 _ HP.out.ps ⟨HF.out.2.1, HF.out.2.2.1⟩ HF.out.2.2.2 eg_choice ?_;intro w1 h1;refine (clo_choice W0 w1 b w.heap.size (w.heap.size + 1) l (d + 1) (max m (d + 1)) ad n c S D (HA.out w1 l _ _ h1.ps HF.out.1) (h1.keeps k3 (by omega) (by decide)) (h1.keeps k4 (by omega) (by decide))).mono ?_
  rintro e w2 ⟨rfl, ho⟩
  exact ⟨rfl, h1.next ho⟩
 have HN := Aside0.mk hN;clear hN k3 k4 h hA hf hbl;have q0 := ta_choice_atom (.agg #[.slice (some ad) n c]);have q1 := ta_choice_ahead (.agg #[.slice (some ad) n c]);have q2 := ta_choice_binary (.agg #[.slice (some ad) n c]);have q3 := ta_choice_nullness (.agg #[.slice (some ad) n c]);have q4 := vz (.agg #[.slice (some ad) n c]);have q5 := ta_choice_called (.agg #[.slice (some ad) n c]);have q6 := ta_choice (.agg #[.slice (some ad) n c])
 go_enter Tryz.func174, Tryz.ntmps174
 go_wp2_with (first
  | (go_at_call 171; go_must (refine HN.out.mono ?_; rintro e w1 ⟨rfl, ho⟩; have ac := Aside0.mk ho; clear ho)))
 go_end0
 refine ⟨rfl, ?_⟩;have h9 := HP.out.next ac.out
 have e : d + ((D + 1 : Nat) : Int) = d + 1 + (D : Int) := by omega
 first | exact e ▸ h9 | (rw [e]; exact h9) | (have e2 : max m (d + ((D : Int) + 1)) = max m (d + 1 + (D : Int)) := (by omega); rw [e2]; exact h9)
set_option maxHeartbeats 4000000 in
set_option maxRecDepth 100000 in
theorem bare_matched (W0 w : World) (b : Nat) (l : List UInt8) (d m : Int) (op : Int) (nt : Bool) (ad : Addr) (n c : Nat) (S : List UInt8) (D : Nat) (hA : ∀ (w : World), PW W0 b l d m w → Calls Tryz.prog 187 #[.pointer (some ⟨b, 0, none⟩), .agg #[.int .i64 op, .bool nt, .slice (some ad) n c]] w fun e w' => e = .returned (.tuple #[]) ∧ PO W0 b (l ++ S) d (max m (d + (D : Int))) w w') (h : PW W0 b l d m w) :
 Calls Tryz.prog 174 #[.pointer (some ⟨b, 0, none⟩), .iface 263 (.agg #[.int .i64 op, .bool nt, .slice (some ad) n c])] w fun e w' => e = .returned (.tuple #[]) ∧ PO W0 b (l ++ S) d (max m (d + (D : Int))) w w' := by
 have HP := Aside0.mk ((PO.start h).below (q8 (q8 (Below.refl w.heap.size w) (.cells #[.pointer (some ⟨b, 0, none⟩)] 229)) (.cells #[.int .i64 op, .bool nt, .slice (some ad) n c] 263)));have HA := Aside0.mk (hA _ HP.out.ps);clear hA h;have q0 := ta_matched_atom (.agg #[.int .i64 op, .bool nt, .slice (some ad) n c]);have q1 := vH (.agg #[.int .i64 op, .bool nt, .slice (some ad) n c]);have q2 := ta_matched_binary (.agg #[.int .i64 op, .bool nt, .slice (some ad) n c]);have q3 := ta_matched_nullness (.agg #[.int .i64 op, .bool nt, .slice (some ad) n c]);have q4 := ta_matched (.agg #[.int .i64 op, .bool nt, .slice (some ad) n c])
 go_enter Tryz.func174, Tryz.ntmps174
 go_wp2_with (first
  | (go_at_call 187; go_must (refine HA.out.mono ?_; rintro e w1 ⟨rfl, ho⟩; have aa := Aside0.mk ho; clear ho)))
 go_end0
 exact ⟨rfl, HP.out.next aa.out⟩
theorem clen (s : ByteArray) : s.data.toList.length = s.size := by rw [Array.length_toList]; rfl
theorem xU (a b : ByteArray) : (a ++ b).data.toList = a.data.toList ++ b.data.toList := by simp
theorem xX (a b : ByteArray) : (a ++ b).size = a.size + b.size := ByteArray.size_append
set_option maxHeartbeats 4000000 in
set_option maxRecDepth 100000 in
theorem bare_null (W0 w : World) (b : Nat) (l : List UInt8) (d m : Int) (ws : ByteArray) (T2 : Nat) (u2 : Value) (t : Tr) (hT : zH W0 (.iface T2 u2) t) (hws : ws.size ≤ 1000) (h : PW W0 b l d m w) (hf : Fits l d m (opd 5 t (shw t).1 ++ 32 :: ws.data.toList) (opdD 5 t (dep t))) :
 Calls Tryz.prog 174 #[.pointer (some ⟨b, 0, none⟩), .iface 268 (.agg #[.string ws, .iface T2 u2])] w fun e w' => e = .returned (.tuple #[]) ∧ PO W0 b (l ++ (opd 5 t (shw t).1 ++ 32 :: ws.data.toList)) d (max m (d + opdD 5 t (dep t))) w w' := by
 have k3 := qe (qL w (.cells #[.pointer (some ⟨b, 0, none⟩)] 229)) (.cells #[.string ws, .iface T2 u2] 268);have k4 := qL (w.alloc (.cells #[.pointer (some ⟨b, 0, none⟩)] 229)) (.cells #[.string ws, .iface T2 u2] 268);rw [World.size_alloc] at k4;have hbl := h.wr.lt;have HP := Aside0.mk ((PO.start h).below (q8 (q8 (Below.refl w.heap.size w) (.cells #[.pointer (some ⟨b, 0, none⟩)] 229)) (.cells #[.string ws, .iface T2 u2] 268)));have H3 := Aside0.mk k3;have H4 := Aside0.mk k4;have N3 := Aside0.mk (show w.heap.size ≠ b by omega);have N4 := Aside0.mk (show w.heap.size + 1 ≠ b by omega);have HT := Aside0.mk hT;have hlw := clen ws;have HF : Aside0 (l.length + (opd 5 t (shw t).1).length + 1 + ws.size ≤ 140737488355328 ∧ Fits l d m (opd 5 t (shw t).1) (opdD 5 t (dep t))) := ⟨by unfold Fits at hf ⊢; simp only [List.length_append, List.length_cons] at hf; omega⟩;obtain ⟨M, hM⟩ : ∃ M, M = max m (d + (opdD 5 t (dep t) : Int)) := ⟨_, rfl⟩;obtain ⟨out, ho⟩ : ∃ out, out = l ++ (opd 5 t (shw t).1 ++ 32 :: ws.data.toList) := ⟨_, rfl⟩;rw [← ho, ← hM];have HO := Aside0.mk ho;have HM := Aside0.mk hM;clear k3 k4 h hT hf hbl hlw ho hM;have q0 := ta_nullness_atom (.agg #[.string ws, .iface T2 u2]);have q1 := vx (.agg #[.string ws, .iface T2 u2]);have q2 := ta_nullness_binary (.agg #[.string ws, .iface T2 u2]);have q3 := ta_nullness (.agg #[.string ws, .iface T2 u2])
 go_enter Tryz.func174, Tryz.ntmps174
 go_upto_region 19 with (first
  | (go_at_call 152; go_must (refine (HT.out _ b l d m 5 HP.out.ps HF.out.2).mono ?_; rintro e w1 ⟨rfl, ho⟩; have af := Aside0.mk (HP.out.next ho); have ab := Aside0.mk ho; clear ho)))
 have c2 : w1.cell? ⟨w.heap.size, 0, none⟩ = some (.pointer (some ⟨b, 0, none⟩)) := (qa (ab.out.keeps H3.out N3.out (by decide)) 0).trans rfl;have c30 : w1.cell? ⟨w.heap.size + 1, 0, none⟩ = some (.string ws) := (qa (ab.out.keeps H4.out N4.out (by decide)) 0).trans rfl
 have sa : ∀ W, (Op.stringOp .add (⟨#[32]⟩ : ByteArray) ws).run Tryz.prog W = .ok (.string ((⟨#[32]⟩ : ByteArray) ++ ws)) W := fun W => run_string_add_sum W _ _ (by show 1 + _ ≤ _; omega)
 go_still_tail 6, (by kernel_rfl)
 change wpList _ _ _ _ _ w1.drew;have ag := Aside0.mk (af.out.below (qb (Below.refl _ _)));generalize w1.drew = w2 at *;clear c2 c30 sa
 go_wp2_with (first
  | (go_at_call 62; go_must (refine (ag.out.str ((⟨#[32]⟩ : ByteArray) ++ ws) (by rw [xX]; have := HF.out.1; show _ + (1 + _) ≤ _; simp only [List.length_append]; omega)).mono ?_; rintro e w3 ⟨rfl, ho⟩; have ah := Aside0.mk ho; clear ho)))
 go_end0
 refine ⟨rfl, ?_⟩;have h9 := ah.out;rw [xU] at h9;rw [HO.out, HM.out];simp only [List.append_assoc, List.cons_append, List.nil_append] at h9 ⊢
 exact h9
set_option maxHeartbeats 4000000 in
set_option maxRecDepth 100000 in
theorem bare_four (W0 w : World) (b : Nat) (l : List UInt8) (d m : Int) (sg : ByteArray) (T2 : Nat) (u2 : Value) (T3 : Nat) (u3 : Value) (a c : Tr) (hTa : zH W0 (.iface T2 u2) a) (hTc : zH W0 (.iface T3 u3) c) (hsg : sg.size ≤ 1000) (h : PW W0 b l d m w) (hf : Fits l d m (opd 5 a (shw a).1 ++ (32 :: (sg.data.toList ++ [32]) ++ opd 5 c (shw c).1)) (max (opdD 5 a (dep a)) (opdD 5 c (dep c)))) :
 Calls Tryz.prog 174 #[.pointer (some ⟨b, 0, none⟩), .iface 271 (.agg #[.string sg, .int .i64 4, .iface T2 u2, .iface T3 u3])] w fun e w' => e = .returned (.tuple #[]) ∧ PO W0 b (l ++ (opd 5 a (shw a).1 ++ (32 :: (sg.data.toList ++ [32]) ++ opd 5 c (shw c).1))) d (max m (d + ((max (opdD 5 a (dep a)) (opdD 5 c (dep c)) : Nat) : Int))) w w' := by
 have k3 := qe (qL w (.cells #[.pointer (some ⟨b, 0, none⟩)] 229)) (.cells #[.string sg, .int .i64 4, .iface T2 u2, .iface T3 u3] 271);have k4 := qL (w.alloc (.cells #[.pointer (some ⟨b, 0, none⟩)] 229)) (.cells #[.string sg, .int .i64 4, .iface T2 u2, .iface T3 u3] 271);rw [World.size_alloc] at k4;have hbl := h.wr.lt;have HP := Aside0.mk ((PO.start h).below (q8 (q8 (Below.refl w.heap.size w) (.cells #[.pointer (some ⟨b, 0, none⟩)] 229)) (.cells #[.string sg, .int .i64 4, .iface T2 u2, .iface T3 u3] 271)));have H3 := Aside0.mk k3;have H4 := Aside0.mk k4;have N3 := Aside0.mk (show w.heap.size ≠ b by omega);have N4 := Aside0.mk (show w.heap.size + 1 ≠ b by omega);have HTa := Aside0.mk hTa;have HTc := Aside0.mk hTc;have hlw := clen sg;obtain ⟨Sa, hSa⟩ : ∃ S, S = opd 5 a (shw a).1 := ⟨_, rfl⟩;obtain ⟨Sc, hSc⟩ : ∃ S, S = opd 5 c (shw c).1 := ⟨_, rfl⟩;obtain ⟨Da, hDa⟩ : ∃ D, D = opdD 5 a (dep a) := ⟨_, rfl⟩;obtain ⟨Dc, hDc⟩ : ∃ D, D = opdD 5 c (dep c) := ⟨_, rfl⟩;rw [← hSa, ← hSc, ← hDa, ← hDc] at hf ⊢;have HSa := Aside0.mk (And.intro hSa hDa);have HSc := Aside0.mk (And.intro hSc hDc);have HF : Aside0 (l.length + Sa.length + 2 + sg.size + Sc.length ≤ 140737488355328 ∧ 0 ≤ d ∧ d + Da ≤ 1000000000 ∧ d + Dc ≤ 1000000000 ∧ d ≤ m ∧ m ≤ 1000000000) := ⟨by unfold Fits at hf; simp only [List.length_append, List.length_cons, List.length_nil] at hf; omega⟩;obtain ⟨M, hM⟩ : ∃ M, M = max m (d + ((max Da Dc : Nat) : Int)) := ⟨_, rfl⟩;obtain ⟨out, ho⟩ : ∃ out, out = l ++ (Sa ++ (32 :: (sg.data.toList ++ [32]) ++ Sc)) := ⟨_, rfl⟩;rw [← ho, ← hM];have HO := Aside0.mk ho;have HM := Aside0.mk hM;have HFa : Aside0 (Fits l d m (opd 5 a (shw a).1) (opdD 5 a (dep a))) := ⟨by have := HF.out; unfold Fits; rw [← hSa, ← hDa]; omega⟩;have HL := Aside0.mk hlw;clear k3 k4 h hTa hTc hf hbl hlw ho hM hSa hSc hDa hDc;have q0 := ta_binary_atom (.agg #[.string sg, .int .i64 4, .iface T2 u2, .iface T3 u3]);have q1 := ve (.agg #[.string sg, .int .i64 4, .iface T2 u2, .iface T3 u3]);have q2 := ta_binary (.agg #[.string sg, .int .i64 4, .iface T2 u2, .iface T3 u3])
 go_enter Tryz.func174, Tryz.ntmps174
 go_upto_region 14 with (first
  | (go_at_call 152; go_must (refine (HTa.out _ b l d m 5 HP.out.ps HFa.out).mono ?_; rintro e w1 ⟨rfl, ho⟩; have aw := Aside0.mk (HP.out.next ho); have ac := Aside0.mk ho; clear ho)))
 have c2 : w1.cell? ⟨w.heap.size, 0, none⟩ = some (.pointer (some ⟨b, 0, none⟩)) := (qa (ac.out.keeps H3.out N3.out (by decide)) 0).trans rfl;have c30 : w1.cell? ⟨w.heap.size + 1, 0, none⟩ = some (.string sg) := (qa (ac.out.keeps H4.out N4.out (by decide)) 0).trans rfl
 have sa : ∀ W, (Op.stringOp .add (⟨#[32]⟩ : ByteArray) sg).run Tryz.prog W = .ok (.string ((⟨#[32]⟩ : ByteArray) ++ sg)) W := fun W => run_string_add_sum W _ _ (by show 1 + _ ≤ _; omega)
 have sb : ∀ W, (Op.stringOp .add ((⟨#[32]⟩ : ByteArray) ++ sg) (⟨#[32]⟩ : ByteArray)).run Tryz.prog W = .ok (.string (((⟨#[32]⟩ : ByteArray) ++ sg) ++ (⟨#[32]⟩ : ByteArray))) W := fun W => run_string_add_sum W _ _ (by rw [xX]; show 1 + _ + 1 ≤ _; omega)
 go_still_tail 7, (by kernel_rfl)
 change wpList _ _ _ _ _ w1.drew;have ai := Aside0.mk (aw.out.below (qb (Below.refl _ _)));have ae := Aside0.mk (ac.out.below (qb (Below.refl _ _)));rw [← HSa.out.1, ← HSa.out.2] at ai ae;generalize w1.drew = w2 at *;clear c2 c30 sa sb;obtain ⟨M1, af⟩ : ∃ M, M = max m (d + (Da : Int)) := ⟨_, rfl⟩;rw [← af] at ai ae;have aj := Aside0.mk af;clear af;have HFc : Aside0 (Fits (l ++ Sa ++ (((⟨#[32]⟩ : ByteArray) ++ sg) ++ (⟨#[32]⟩ : ByteArray)).data.toList) d M1 (opd 5 c (shw c).1) (opdD 5 c (dep c))) := ⟨by have := HF.out; have h2 := aj.out; have h3 := HL.out; unfold Fits; rw [← HSc.out.1, ← HSc.out.2]; simp only [xU, List.length_append, List.length_cons, List.length_nil]; omega⟩
 go_upto_region 15 with (first
  | (go_at_call 62; go_must (refine (ae.out.str (((⟨#[32]⟩ : ByteArray) ++ sg) ++ (⟨#[32]⟩ : ByteArray)) (by rw [xX, xX]; have := HF.out.1; show _ + (1 + _ + 1) ≤ _; simp only [List.length_append]; omega)).mono ?_; rintro e w3 ⟨rfl, ho⟩; have ak := Aside0.mk (HP.out.next ho); have ag := Aside0.mk ho; clear ho)))
 have c2 : w3.cell? ⟨w.heap.size, 0, none⟩ = some (.pointer (some ⟨b, 0, none⟩)) := (qa (ag.out.keeps H3.out N3.out (by decide)) 0).trans rfl;have c31 : w3.cell? ⟨w.heap.size + 1, 1, none⟩ = some (.int .i64 4) := (qa (ag.out.keeps H4.out N4.out (by decide)) 1).trans rfl;have ay : w3.cell? ⟨w.heap.size + 1, 3, none⟩ = some (.iface T3 u3) := (qa (ag.out.keeps H4.out N4.out (by decide)) 3).trans rfl
 go_wp2_with (first
  | (go_at_call 152; go_must (refine (HTc.out _ b (l ++ Sa ++ (((⟨#[32]⟩ : ByteArray) ++ sg) ++ (⟨#[32]⟩ : ByteArray)).data.toList) d M1 5 ak.out.ps HFc.out).mono ?_; rintro e w4 ⟨rfl, ho⟩; have ax := Aside0.mk (ak.out.next ho); clear ho)))
 go_end0
 refine ⟨rfl, ?_⟩;have h9 := ax.out;rw [xU, xU, ← HSc.out.1, ← HSc.out.2] at h9
 have eM : max M1 (d + (Dc : Int)) = M := by have := HM.out; have := aj.out; omega
 rw [eM] at h9;rw [HO.out];simp only [List.append_assoc, List.cons_append, List.nil_append] at h9 ⊢
 exact h9
set_option maxHeartbeats 4000000 in
set_option maxRecDepth 100000 in
theorem bare_else (W0 w : World) (b : Nat) (l : List UInt8) (d m : Int) (sg : ByteArray) (lv : Int) (hlv : 0 ≤ lv ∧ lv ≤ 100 ∧ lv ≠ 4) (T2 : Nat) (u2 : Value) (T3 : Nat) (u3 : Value) (a c : Tr) (hTa : zH W0 (.iface T2 u2) a) (hTc : zH W0 (.iface T3 u3) c) (hsg : sg.size ≤ 1000) (h : PW W0 b l d m w) (hf : Fits l d m (opd lv a (shw a).1 ++ (32 :: (sg.data.toList ++ [32]) ++ opd (lv + 1) c (shw c).1)) (max (opdD lv a (dep a)) (opdD (lv + 1) c (dep c)))) :
 Calls Tryz.prog 174 #[.pointer (some ⟨b, 0, none⟩), .iface 271 (.agg #[.string sg, .int .i64 lv, .iface T2 u2, .iface T3 u3])] w fun e w' => e = .returned (.tuple #[]) ∧ PO W0 b (l ++ (opd lv a (shw a).1 ++ (32 :: (sg.data.toList ++ [32]) ++ opd (lv + 1) c (shw c).1))) d (max m (d + ((max (opdD lv a (dep a)) (opdD (lv + 1) c (dep c)) : Nat) : Int))) w w' := by
 have k3 := qe (qL w (.cells #[.pointer (some ⟨b, 0, none⟩)] 229)) (.cells #[.string sg, .int .i64 lv, .iface T2 u2, .iface T3 u3] 271);have k4 := qL (w.alloc (.cells #[.pointer (some ⟨b, 0, none⟩)] 229)) (.cells #[.string sg, .int .i64 lv, .iface T2 u2, .iface T3 u3] 271);rw [World.size_alloc] at k4;have hbl := h.wr.lt;have HP := Aside0.mk ((PO.start h).below (q8 (q8 (Below.refl w.heap.size w) (.cells #[.pointer (some ⟨b, 0, none⟩)] 229)) (.cells #[.string sg, .int .i64 lv, .iface T2 u2, .iface T3 u3] 271)));have H3 := Aside0.mk k3;have H4 := Aside0.mk k4;have N3 := Aside0.mk (show w.heap.size ≠ b by omega);have N4 := Aside0.mk (show w.heap.size + 1 ≠ b by omega);have HTa := Aside0.mk hTa;have HTc := Aside0.mk hTc;have hlw := clen sg;obtain ⟨Sa, hSa⟩ : ∃ S, S = opd lv a (shw a).1 := ⟨_, rfl⟩;obtain ⟨Sc, hSc⟩ : ∃ S, S = opd (lv + 1) c (shw c).1 := ⟨_, rfl⟩;obtain ⟨Da, hDa⟩ : ∃ D, D = opdD lv a (dep a) := ⟨_, rfl⟩;obtain ⟨Dc, hDc⟩ : ∃ D, D = opdD (lv + 1) c (dep c) := ⟨_, rfl⟩;rw [← hSa, ← hSc, ← hDa, ← hDc] at hf ⊢;have HSa := Aside0.mk (And.intro hSa hDa);have HSc := Aside0.mk (And.intro hSc hDc);have HF : Aside0 (l.length + Sa.length + 2 + sg.size + Sc.length ≤ 140737488355328 ∧ 0 ≤ d ∧ d + Da ≤ 1000000000 ∧ d + Dc ≤ 1000000000 ∧ d ≤ m ∧ m ≤ 1000000000) := ⟨by unfold Fits at hf; simp only [List.length_append, List.length_cons, List.length_nil] at hf; omega⟩;obtain ⟨M, hM⟩ : ∃ M, M = max m (d + ((max Da Dc : Nat) : Int)) := ⟨_, rfl⟩;obtain ⟨out, ho⟩ : ∃ out, out = l ++ (Sa ++ (32 :: (sg.data.toList ++ [32]) ++ Sc)) := ⟨_, rfl⟩;rw [← ho, ← hM];have HO := Aside0.mk ho;have HM := Aside0.mk hM;have HFa : Aside0 (Fits l d m (opd lv a (shw a).1) (opdD lv a (dep a))) := ⟨by have := HF.out; unfold Fits; rw [← hSa, ← hDa]; omega⟩;have HL := Aside0.mk hlw
 have hb : (lv == 4) = false := by simpa using hlv.2.2
 have ay := hlv.1;have az := hlv.2.1;clear k3 k4 h hTa hTc hf hbl hlw ho hM hSa hSc hDa hDc hlv;have q0 := ta_binary_atom (.agg #[.string sg, .int .i64 lv, .iface T2 u2, .iface T3 u3]);have q1 := ve (.agg #[.string sg, .int .i64 lv, .iface T2 u2, .iface T3 u3]);have q2 := ta_binary (.agg #[.string sg, .int .i64 lv, .iface T2 u2, .iface T3 u3])
 go_enter Tryz.func174, Tryz.ntmps174
 go_upto_region 14 with (first
  | (go_at_call 152; go_must (refine (HTa.out _ b l d m lv HP.out.ps HFa.out).mono ?_; rintro e w1 ⟨rfl, ho⟩; have aw := Aside0.mk (HP.out.next ho); have ac := Aside0.mk ho; clear ho)))
 have c2 : w1.cell? ⟨w.heap.size, 0, none⟩ = some (.pointer (some ⟨b, 0, none⟩)) := (qa (ac.out.keeps H3.out N3.out (by decide)) 0).trans rfl;have c30 : w1.cell? ⟨w.heap.size + 1, 0, none⟩ = some (.string sg) := (qa (ac.out.keeps H4.out N4.out (by decide)) 0).trans rfl
 have sa : ∀ W, (Op.stringOp .add (⟨#[32]⟩ : ByteArray) sg).run Tryz.prog W = .ok (.string ((⟨#[32]⟩ : ByteArray) ++ sg)) W := fun W => run_string_add_sum W _ _ (by show 1 + _ ≤ _; omega)
 have sb : ∀ W, (Op.stringOp .add ((⟨#[32]⟩ : ByteArray) ++ sg) (⟨#[32]⟩ : ByteArray)).run Tryz.prog W = .ok (.string (((⟨#[32]⟩ : ByteArray) ++ sg) ++ (⟨#[32]⟩ : ByteArray))) W := fun W => run_string_add_sum W _ _ (by rw [xX]; show 1 + _ + 1 ≤ _; omega)
 go_still_tail 7, (by kernel_rfl)
 change wpList _ _ _ _ _ w1.drew;have ai := Aside0.mk (aw.out.below (qb (Below.refl _ _)));have ae := Aside0.mk (ac.out.below (qb (Below.refl _ _)));rw [← HSa.out.1, ← HSa.out.2] at ai ae;generalize w1.drew = w2 at *;clear c2 c30 sa sb;obtain ⟨M1, af⟩ : ∃ M, M = max m (d + (Da : Int)) := ⟨_, rfl⟩;rw [← af] at ai ae;have aj := Aside0.mk af;clear af;have HFc : Aside0 (Fits (l ++ Sa ++ (((⟨#[32]⟩ : ByteArray) ++ sg) ++ (⟨#[32]⟩ : ByteArray)).data.toList) d M1 (opd (lv + 1) c (shw c).1) (opdD (lv + 1) c (dep c))) := ⟨by have := HF.out; have h2 := aj.out; have h3 := HL.out; unfold Fits; rw [← HSc.out.1, ← HSc.out.2]; simp only [xU, List.length_append, List.length_cons, List.length_nil]; omega⟩
 go_upto_region 15 with (first
  | (go_at_call 62; go_must (refine (ae.out.str (((⟨#[32]⟩ : ByteArray) ++ sg) ++ (⟨#[32]⟩ : ByteArray)) (by rw [xX, xX]; have := HF.out.1; show _ + (1 + _ + 1) ≤ _; simp only [List.length_append]; omega)).mono ?_; rintro e w3 ⟨rfl, ho⟩; have ak := Aside0.mk (HP.out.next ho); have ag := Aside0.mk ho; clear ho)))
 have c2 : w3.cell? ⟨w.heap.size, 0, none⟩ = some (.pointer (some ⟨b, 0, none⟩)) := (qa (ag.out.keeps H3.out N3.out (by decide)) 0).trans rfl;have c31 : w3.cell? ⟨w.heap.size + 1, 1, none⟩ = some (.int .i64 lv) := (qa (ag.out.keeps H4.out N4.out (by decide)) 1).trans rfl;have a0 : w3.cell? ⟨w.heap.size + 1, 3, none⟩ = some (.iface T3 u3) := (qa (ag.out.keeps H4.out N4.out (by decide)) 3).trans rfl
 go_wp2_with (first
  | (go_at_call 152; go_must (refine (HTc.out _ b (l ++ Sa ++ (((⟨#[32]⟩ : ByteArray) ++ sg) ++ (⟨#[32]⟩ : ByteArray)).data.toList) d M1 (lv + 1) ak.out.ps HFc.out).mono ?_; rintro e w4 ⟨rfl, ho⟩; have ax := Aside0.mk (ak.out.next ho); clear ho)))
 go_end0
 refine ⟨rfl, ?_⟩;have h9 := ax.out;rw [xU, xU, ← HSc.out.1, ← HSc.out.2] at h9
 have eM : max M1 (d + (Dc : Int)) = M := by have := HM.out; have := aj.out; omega
 rw [eM] at h9;rw [HO.out];simp only [List.append_assoc, List.cons_append, List.nil_append] at h9 ⊢
 exact h9
theorem eg46 : ∀ args w, (callFunc 188 args).run Tryz.prog w = .ok (.enter 188 args) w := enters_of Tryz.func188 (by kernel_rfl) rfl
set_option maxHeartbeats 4000000 in
set_option maxRecDepth 100000 in
theorem clo_called (W0 w : World) (b g3 g4 : Nat) (l : List UInt8) (d m : Int) (nm : ByteArray) (A : Option Addr) (c : Nat) (vs : List Value) (ts : List Tr) (hr : RowV W0 A vs) (hK : AllOK W0 vs ts) (hn : ts.length ≤ 1000000000)
 (h : PW W0 b l d m w) (hf : Fits l d m (nm.data.toList ++ (40 :: (lstL (its ts) ++ [41]))) (mxl ts))
 (k3 : w.heap[g3]? = some (.cells #[.pointer (some ⟨b, 0, none⟩)] 229 (0, 0))) (k4 : w.heap[g4]? = some (.cells #[.string nm, .slice A ts.length c] 277 (0, 0))) (n3 : g3 ≠ b) (n4 : g4 ≠ b) :
 Calls Tryz.prog 188 #[.pointer (some ⟨g3, 0, none⟩), .pointer (some ⟨g4, 0, none⟩)] w fun e w' => e = .returned (.tuple #[]) ∧ PO W0 b (l ++ (nm.data.toList ++ (40 :: (lstL (its ts) ++ [41])))) d (max m (d + mxl ts)) w w' := by
 have HP := Aside0.mk (PO.start h);have HR := Aside0.mk hr;have HK := Aside0.mk hK;have H3 := Aside0.mk k3;have H4 := Aside0.mk k4;have N3 := Aside0.mk n3;have N4 := Aside0.mk n4;have c3 : w.cell? ⟨g3, 0, none⟩ = some (.pointer (some ⟨b, 0, none⟩)) := (qa k3 0).trans rfl;have al : w.cell? ⟨g4, 0, none⟩ = some (.string nm) := (qa k4 0).trans rfl;have HN := Aside0.mk hn;have hl := clen nm;have HL := Aside0.mk hl;have HF : Aside0 (l.length + 2 + nm.size + (lstL (its ts)).length ≤ 140737488355328 ∧ 0 ≤ d ∧ d + mxl ts ≤ 1000000000 ∧ d ≤ m ∧ m ≤ 1000000000) := ⟨by unfold Fits at hf; simp only [List.length_append, List.length_cons, List.length_nil] at hf; omega⟩;obtain ⟨out, ho⟩ : ∃ out, out = l ++ (nm.data.toList ++ (40 :: (lstL (its ts) ++ [41]))) := ⟨_, rfl⟩;rw [← ho];have HO := Aside0.mk ho
 have sa : ∀ W, (Op.stringOp .add nm (⟨#[40]⟩ : ByteArray)).run Tryz.prog W = .ok (.string (nm ++ (⟨#[40]⟩ : ByteArray))) W := fun W => run_string_add_sum W _ _ (by have := HF.out.1; show _ + 1 ≤ _; omega)
 clear h hf k3 k4 n3 n4 hr hK hn ho hl
 go_enter Tryz.func188, Tryz.ntmps188
 go_upto_region 0 with (fail)
 go_still_tail 6, (by kernel_rfl)
 change wpList _ _ _ _ _ w.drew;have am := Aside0.mk (HP.out.below (qb (Below.refl _ _)));generalize w.drew = w2 at *;clear c3 al sa;have an : Aside0 (Fits (l ++ (nm ++ (⟨#[40]⟩ : ByteArray)).data.toList) d m (lstL (its ts)) (mxl ts)) := ⟨by have := HF.out; have h2 := HL.out; unfold Fits; simp only [xU, List.length_append, List.length_cons, List.length_nil]; omega⟩
 go_upto_region 1 with (first
  | (go_at_call 62; go_must (refine (am.out.str (nm ++ (⟨#[40]⟩ : ByteArray)) (by rw [xX]; have := HF.out.1; show _ + (_ + 1) ≤ _; omega)).mono ?_; rintro e w3 ⟨rfl, ho⟩; have aa := Aside0.mk ho; clear ho)))
 have c3 : w3.cell? ⟨g3, 0, none⟩ = some (.pointer (some ⟨b, 0, none⟩)) := (qa (aa.out.keeps H3.out N3.out (by decide)) 0).trans rfl;have ao : w3.cell? ⟨g4, 1, none⟩ = some (.slice A ts.length c) := (qa (aa.out.keeps H4.out N4.out (by decide)) 1).trans rfl
 go_upto_region 2 with (first
  | (go_at_call 189; ((with_reducible refine (list_calls W0 w3 b (l ++ (nm ++ (⟨#[40]⟩ : ByteArray)).data.toList) d m A c vs ts HR.out HK.out HN.out aa.out.ps an.out).mono ?_)); go_must (rintro e w4 ⟨rfl, ho⟩; have ae := Aside0.mk (aa.out.next ho); clear ho)))
 clear c3 ao;have c3 : w4.cell? ⟨g3, 0, none⟩ = some (.pointer (some ⟨b, 0, none⟩)) := (qa (ae.out.keeps H3.out N3.out (by decide)) 0).trans rfl
 go_wp2_with (go_at_call 173; go_must (refine (ae.out.byte 41 (by have := HF.out; have h2 := HL.out; simp only [xU, List.length_append, List.length_cons, List.length_nil]; omega)).mono ?_; rintro e w5 ⟨rfl, ho⟩; have ap := Aside0.mk ho; clear ho))
 go_end0
 refine ⟨rfl, ?_⟩;have h9 := ap.out;rw [xU] at h9;rw [HO.out];simp only [List.append_assoc, List.cons_append, List.nil_append] at h9 ⊢
 exact h9
set_option maxHeartbeats 4000000 in
set_option maxRecDepth 100000 in
theorem bare_called (W0 w : World) (b : Nat) (l : List UInt8) (d m : Int) (nm : ByteArray) (A : Option Addr) (c : Nat) (vs : List Value) (ts : List Tr) (hr : RowV W0 A vs) (hK : AllOK W0 vs ts) (hn : ts.length ≤ 1000000000) (h : PW W0 b l d m w) (hf : Fits l d m (nm.data.toList ++ (40 :: (lstL (its ts) ++ [41]))) (mxl ts + 1)) :
 Calls Tryz.prog 174 #[.pointer (some ⟨b, 0, none⟩), .iface 277 (.agg #[.string nm, .slice A ts.length c])] w fun e w' => e = .returned (.tuple #[]) ∧ PO W0 b (l ++ (nm.data.toList ++ (40 :: (lstL (its ts) ++ [41])))) d (max m (d + ((mxl ts + 1 : Nat) : Int))) w w' := by
 have k3 := qe (qL w (.cells #[.pointer (some ⟨b, 0, none⟩)] 229)) (.cells #[.string nm, .slice A ts.length c] 277);have k4 := qL (w.alloc (.cells #[.pointer (some ⟨b, 0, none⟩)] 229)) (.cells #[.string nm, .slice A ts.length c] 277);rw [World.size_alloc] at k4;have hbl := h.wr.lt;have HP := Aside0.mk ((PO.start h).below (q8 (q8 (Below.refl w.heap.size w) (.cells #[.pointer (some ⟨b, 0, none⟩)] 229)) (.cells #[.string nm, .slice A ts.length c] 277)));have HF : Aside0 (Fits l (d + 1) (max m (d + 1)) (nm.data.toList ++ (40 :: (lstL (its ts) ++ [41]))) (mxl ts) ∧ 0 ≤ d ∧ d ≤ 1000000000 ∧ 0 ≤ m ∧ m ≤ 2000000000) := ⟨by unfold Fits at hf ⊢; omega⟩;obtain ⟨D, hD⟩ : ∃ D, D = mxl ts := ⟨_, rfl⟩;obtain ⟨S, hS⟩ : ∃ S, S = nm.data.toList ++ (40 :: (lstL (its ts) ++ [41])) := ⟨_, rfl⟩;rw [← hD, ← hS]
 have hN : Calls Tryz.prog 171 #[.pointer (some ⟨b, 0, none⟩), .func (.func 188) #[] #[.pointer (some ⟨w.heap.size, 0, none⟩), .pointer (some ⟨w.heap.size + 1, 0, none⟩)]] ((w.alloc (.cells #[.pointer (some ⟨b, 0, none⟩)] 229)).alloc (.cells #[.string nm, .slice A ts.length c] 277)) fun e w' => e = .returned (.tuple #[]) ∧ PO W0 b (l ++ S) d (max m (d + 1 + D)) ((w.alloc (.cells #[.pointer (some ⟨b, 0, none⟩)] 229)).alloc (.cells #[.string nm, .slice A ts.length c] 277)) w' := by
  refine xL W0 _ b l (l ++ S) d m D 188 _ HP.out.ps ⟨HF.out.2.1, HF.out.2.2.1⟩ HF.out.2.2.2 eg46 ?_;intro w1 h1;refine (clo_called W0 w1 b w.heap.size (w.heap.size + 1) l (d + 1) (max m (d + 1)) nm A c vs ts hr hK hn h1.ps HF.out.1 (h1.keeps k3 (by omega) (by decide)) (h1.keeps k4 (by omega) (by decide)) (by omega) (by omega)).mono ?_
  rintro e w2 ⟨rfl, ho⟩
  rw [← hS, ← hD] at ho
  exact ⟨rfl, h1.next ho⟩
 have HN := Aside0.mk hN;clear hN k3 k4 h hf hbl HF hD hS;have q0 := ta_called_atom (.agg #[.string nm, .slice A ts.length c]);have q1 := ta_called_ahead (.agg #[.string nm, .slice A ts.length c]);have q2 := ta_called_binary (.agg #[.string nm, .slice A ts.length c]);have q3 := ta_called_nullness (.agg #[.string nm, .slice A ts.length c]);have q4 := vy (.agg #[.string nm, .slice A ts.length c]);have q5 := ta_called (.agg #[.string nm, .slice A ts.length c])
 go_enter Tryz.func174, Tryz.ntmps174
 go_wp2_with (first
  | (go_at_call 171; go_must (refine HN.out.mono ?_; rintro e w1 ⟨rfl, ho⟩; have ac := Aside0.mk ho; clear ho)))
 go_end0
 refine ⟨rfl, ?_⟩;have h9 := HP.out.next ac.out
 have e : d + ((D + 1 : Nat) : Int) = d + 1 + (D : Int) := by omega
 first | exact e ▸ h9 | (rw [e]; exact h9) | (have e2 : max m (d + ((D : Int) + 1)) = max m (d + 1 + (D : Int)) := (by omega); rw [e2]; exact h9)
theorem nodess_len : ∀ ts : List Tr, ts.length ≤ zD ts
 | [] => Nat.zero_le _
 | t :: ts => by have := nodes_pos t; have := nodess_len ts; simp only [List.length_cons, zD]; omega
theorem maxD_one (x : Nd) (e : Nat) (hw : ∀ k, 1 ≤ k → zu x.f0 k = 1) (hn : ∀ k, 1 ≤ k → xi x.f0 k = e) : ∀ (ts : List Tr) (k : Nat), 1 ≤ k → ts ≠ [] → maxD x k (ts.zip (deps ts)) = mxl ts + e
 | [t], k, hk, _ => by simp [deps, maxD, mxl, hw k hk, hn k hk]
 | t :: u :: ts, k, hk, _ => by
  have h := maxD_one x e hw hn (u :: ts) (k + 1) (by omega) (by simp);simp only [deps, List.zip_cons_cons, maxD, mxl, hw k hk, hn k hk] at h ⊢
  rw [h]; omega
theorem maxD_all (x : Nd) (e : Nat) (hw : ∀ k, zu x.f0 k = 1) (hn : ∀ k, xi x.f0 k = e) : ∀ (ts : List Tr) (k : Nat), ts ≠ [] → maxD x k (ts.zip (deps ts)) = mxl ts + e
 | [t], k, _ => by simp [deps, maxD, mxl, hw k, hn k]
 | t :: u :: ts, k, _ => by
  have h := maxD_all x e hw hn (u :: ts) (k + 1) (by simp);simp only [deps, List.zip_cons_cons, maxD, mxl, hw k, hn k] at h ⊢
  rw [h]; omega
theorem str_list (l : List UInt8) : (str l).data.toList = l := by simp [str]
theorem str_len (l : List UInt8) : (str l).size = l.length := by simp [str, ByteArray.size]
theorem xE (x : Nd) (ks : List Tr) (h : ¬ (x.f0 = 8 ∧ zI (kid ks 0).f0.f0 = true)) : dep ⟨x, ks⟩ = maxD x 0 (ks.zip (deps ks)) := by simp only [dep, if_neg h]
theorem mx_self (d m : Int) (h : d ≤ m) : max m (d + ((0 : Nat) : Int)) = m := by omega
section
variable (W0 : World)
theorem bok_leaf (x : Nd) (h1 : 1 ≤ x.f0) (h6 : x.f0 ≤ 6) : vP W0 (.iface 260 (.string (str (leafL x.f0 x.f2 x.f3.data.toList)))) ⟨x, []⟩ := by
 intro w b l d m h hf
 have e1 : (shw ⟨x, []⟩).1 = leafL x.f0 x.f2 x.f3.data.toList := by simp only [shw, zb, if_pos h6]
 have e2 : dep ⟨x, []⟩ = 0 := by rw [xE _ _ (by omega)]; rfl
 rw [e1, e2] at hf ⊢;refine (bare_atom W0 w b l d m _ h (by rw [str_len]; exact hf.1)).mono ?_
 rintro e w' ⟨rfl, ho⟩
 rw [str_list] at ho;rw [mx_self d m hf.2.2.2.1]
 exact ⟨rfl, ho⟩
theorem bok_ahead (x : Nd) (t : Tr) (v : Value) (hx : x.f0 = 7 ∨ (x.f0 = 8 ∧ zI t.f0.f0 = false)) (hv : IsT W0 v t) (hT : zH W0 v t) : vP W0 (.iface 266 (.agg #[.int .i64 x.f0, v])) ⟨x, [t]⟩ := by
 intro w b l d m h hf;obtain ⟨T2, u2, rfl⟩ := zL hv
 rcases hx with hx | ⟨hx, hm⟩
 · have e1 : (shw ⟨x, [t]⟩).1 = 45 :: (spL t.f0.f0 ++ opd 8 t (shw t).1) := by
    simp [shw, zb, hx, shws, opn, zu, kid, txt, spL]
   have e2 : dep ⟨x, [t]⟩ = opdD 8 t (dep t) + 1 := by
    rw [xE _ _ (by omega)]
    simp [deps, maxD, hx, zu, xi]
   rw [e1, e2] at hf ⊢;rw [hx]
   exact bare_ahead W0 w b l d m 7 T2 u2 _ _ (fun w l d m h hf => ahead_neg W0 w b l d m _ t hv hT h hf) h hf
 · have hk : zI (kid [t] 0).f0.f0 = false := hm
   have e1 : (shw ⟨x, [t]⟩).1 = [78, 79, 84, 32] ++ opd 3 t (shw t).1 := by
    have ae : ¬ zI t.f0.f0 = true := by rw [hm]; decide
    simp [shw, zb, hx, shws, opn, zu, kid, txt, hm]
   have e2 : dep ⟨x, [t]⟩ = opdD 3 t (dep t) + 1 := by
    rw [xE _ _ (by rw [hk]; simp)]
    simp [deps, maxD, hx, zu, xi]
   rw [e1, e2] at hf ⊢;rw [hx]
   exact bare_ahead W0 w b l d m 8 T2 u2 _ _ (fun w l d m h hf => ahead_not W0 w b l d m _ t hT h hf) h hf
theorem bok_null (x : Nd) (t : Tr) (v : Value) (hx : x.f0 = 9 ∨ x.f0 = 10) (hv : IsT W0 v t) (hT : zH W0 v t) : vP W0 (.iface 268 (.agg #[.string (str (wordsL x.f0)), v])) ⟨x, [t]⟩ := by
 intro w b l d m h hf;obtain ⟨T2, u2, rfl⟩ := zL hv
 have e1 : (shw ⟨x, [t]⟩).1 = opd 5 t (shw t).1 ++ 32 :: (str (wordsL x.f0)).data.toList := by
  rw [str_list]
  rcases hx with hx | hx <;> simp [shw, zb, hx, shws, wordsL, opn, zu, kid, txt]
 have e2 : dep ⟨x, [t]⟩ = opdD 5 t (dep t) := by
  rw [xE _ _ (by omega)]
  rcases hx with hx | hx <;> simp [deps, maxD, hx, zu, xi]
 rw [e1, e2] at hf ⊢
 exact bare_null W0 w b l d m _ T2 u2 t hT (by rw [str_len]; rcases hx with hx | hx <;> simp [hx, wordsL]) h hf
theorem ite_len {p : Prop} [Decidable p] (a b : List UInt8) (n : Nat) (ha : a.length ≤ n) (hb : b.length ≤ n) : (if p then a else b).length ≤ n := by by_cases h : p <;> simp only [h, if_true, if_false] <;> assumption
theorem sign_len (op : Int) : (vf op).length ≤ 1000 := by
 unfold vf
 repeat refine ite_len _ _ _ (by decide) ?_
 decide
theorem bok_binary (x : Nd) (a c : Tr) (va vc : Value) (h1 : 11 ≤ x.f0) (h2 : x.f0 ≤ 24) (hva : IsT W0 va a) (hvc : IsT W0 vc c) (hTa : zH W0 va a) (hTc : zH W0 vc c) : vP W0 (.iface 271 (.agg #[.string (str (vf x.f0)), .int .i64 (lvlI x.f0), va, vc])) ⟨x, [a, c]⟩ := by
 intro w b l d m h hf;obtain ⟨T2, u2, rfl⟩ := zL hva;obtain ⟨T3, u3, rfl⟩ := zL hvc
 have hsz : (str (vf x.f0)).size ≤ 1000 := by rw [str_len]; exact sign_len _
 have e1 : (shw ⟨x, [a, c]⟩).1 = opd (zu x.f0 0) a (shw a).1 ++ (32 :: ((str (vf x.f0)).data.toList ++ [32]) ++ opd (zu x.f0 1) c (shw c).1) := by
  rw [str_list];simp only [shw, zb, shws, if_neg (show ¬ x.f0 ≤ 6 by omega), if_neg (show ¬ x.f0 = 7 by omega), if_neg (show ¬ x.f0 = 8 by omega), if_neg (show ¬ x.f0 = 9 by omega), if_neg (show ¬ x.f0 = 10 by omega), if_pos h2, opn, kid, txt]
  simp
 have hn : ∀ k, xi x.f0 k = 0 := fun k => by unfold xi; rw [if_neg (by omega)]
 have e2 : dep ⟨x, [a, c]⟩ = max (opdD (zu x.f0 0) a (dep a)) (opdD (zu x.f0 1) c (dep c)) := by
  rw [xE _ _ (by omega)]
  simp [deps, maxD, hn]
 rw [e1, e2] at hf ⊢
 by_cases h4 : 17 ≤ x.f0 ∧ x.f0 ≤ 22
 · have hl : lvlI x.f0 = 4 := by unfold lvlI; rw [if_neg (by omega), if_neg (by omega), if_neg (by omega), if_neg (by omega), if_neg (by omega)]
   have hw : ∀ k, zu x.f0 k = 5 := fun k => by unfold zu; rw [if_neg (by omega), if_neg (by omega), if_neg (by omega), if_neg (by omega), if_pos (by omega)]
   rw [hl];rw [hw, hw] at hf ⊢
   exact bare_four W0 w b l d m _ T2 u2 T3 u3 a c hTa hTc hsz h hf
 · have aa : zu x.f0 0 = lvlI x.f0 ∧ zu x.f0 1 = lvlI x.f0 + 1 ∧ 0 ≤ lvlI x.f0 ∧ lvlI x.f0 ≤ 100 ∧ lvlI x.f0 ≠ 4 := by
    have hc : x.f0 = 11 ∨ x.f0 = 12 ∨ x.f0 = 13 ∨ x.f0 = 14 ∨ x.f0 = 15 ∨ x.f0 = 16 ∨ x.f0 = 23 ∨ x.f0 = 24 := by omega
    rcases hc with hc | hc | hc | hc | hc | hc | hc | hc <;> (rw [hc]; decide)
   rw [aa.1, aa.2.1] at hf ⊢
   exact bare_else W0 w b l d m _ _ aa.2.2 T2 u2 T3 u3 a c hTa hTc hsz h hf
theorem bok_mat (x : Nd) (ks : List Tr) (vs : List Value) (A : Option Addr) (c : Nat) (nt : Bool) (hx : zI x.f0 = true) (hn : (x.f0 = 25 → ks.length = 2) ∧ (x.f0 = 26 → ks.length = 3) ∧ (x.f0 = 27 → 2 ≤ ks.length)) (hc : ks.length ≤ c) (hr : RowV W0 A vs) (hK : AllOK W0 vs ks) (hks : ks.length ≤ 1000000000)
 (w : World) (b : Nat) (l : List UInt8) (d m : Int) (h : PW W0 b l d m w) (hf : Fits l d m (zb (ntL nt) x ks (shws ks)) (maxD x 0 (ks.zip (deps ks)))) :
 Calls Tryz.prog 174 #[.pointer (some ⟨b, 0, none⟩), .iface 263 (.agg #[.int .i64 x.f0, .bool nt, .slice A ks.length c])] w fun e w' => e = .returned (.tuple #[]) ∧ PO W0 b (l ++ zb (ntL nt) x ks (shws ks)) d (max m (d + (maxD x 0 (ks.zip (deps ks)) : Nat))) w w' := by
 obtain ⟨ad, rfl, hcell⟩ := hr;have an := (xM _).1 hx;refine bare_matched W0 w b l d m x.f0 nt ad ks.length c _ _ ?_ h;intro w h
 have al : x.f0 = 25 ∨ x.f0 = 26 ∨ x.f0 = 27 := by omega
 rcases al with hx | hx | hx
 · have hk := hn.1 hx
   obtain ⟨t0, t1, rfl⟩ : ∃ t0 t1, ks = [t0, t1] := by
    match ks, hk with
    | [t0, t1], _ => exact ⟨t0, t1, rfl⟩
   have hvl := hK.1
   obtain ⟨v0, v1, rfl⟩ : ∃ v0 v1, vs = [v0, v1] := by
    match vs, hvl with
    | [t0, t1], _ => exact ⟨t0, t1, rfl⟩
   have e2 : maxD x 0 ([t0, t1].zip (deps [t0, t1])) = max (opdD 5 t0 (dep t0)) (opdD 5 t1 (dep t1)) := by simp [deps, maxD, hx, zu, xi]
   rw [e2] at hf ⊢;rw [hx]
   cases nt with
   | false =>
    have e1 : zb (ntL false) x [t0, t1] (shws [t0, t1]) = opd 5 t0 (shw t0).1 ++ [32, 76, 73, 75, 69, 32] ++ opd 5 t1 (shw t1).1 := by simp [zb, hx, shws, opn, zu, kid, txt, ntL]
    rw [e1] at hf ⊢
    exact matched_like W0 w b l d m ad c v0 v1 t0 t1 (hcell 0 _ rfl) (hcell 1 _ rfl) hc (hK.2 0 _ _ rfl rfl) (hK.2 1 _ _ rfl rfl) h hf
   | true =>
    have e1 : zb (ntL true) x [t0, t1] (shws [t0, t1]) = opd 5 t0 (shw t0).1 ++ [32, 78, 79, 84] ++ [32, 76, 73, 75, 69, 32] ++ opd 5 t1 (shw t1).1 := by simp [zb, hx, shws, opn, zu, kid, txt, ntL]
    rw [e1] at hf ⊢
    exact matched_like_not W0 w b l d m ad c v0 v1 t0 t1 (hcell 0 _ rfl) (hcell 1 _ rfl) hc (hK.2 0 _ _ rfl rfl) (hK.2 1 _ _ rfl rfl) h hf
 · have hk := hn.2.1 hx
   obtain ⟨t0, t1, t2, rfl⟩ : ∃ t0 t1 t2, ks = [t0, t1, t2] := by
    match ks, hk with
    | [t0, t1, t2], _ => exact ⟨t0, t1, t2, rfl⟩
   have hvl := hK.1
   obtain ⟨v0, v1, v2, rfl⟩ : ∃ v0 v1 v2, vs = [v0, v1, v2] := by
    match vs, hvl with
    | [t0, t1, t2], _ => exact ⟨t0, t1, t2, rfl⟩
   have e2 : maxD x 0 ([t0, t1, t2].zip (deps [t0, t1, t2])) = max (max (opdD 5 t0 (dep t0)) (opdD 5 t1 (dep t1))) (opdD 5 t2 (dep t2)) := by simp [deps, maxD, hx, zu, xi, Nat.max_assoc]
   rw [e2] at hf ⊢;rw [hx]
   cases nt with
   | false =>
    have e1 : zb (ntL false) x [t0, t1, t2] (shws [t0, t1, t2]) = opd 5 t0 (shw t0).1 ++ [32, 66, 69, 84, 87, 69, 69, 78, 32] ++ opd 5 t1 (shw t1).1 ++ [32, 65, 78, 68, 32] ++ opd 5 t2 (shw t2).1 := by simp [zb, hx, shws, opn, zu, kid, txt, ntL]
    rw [e1] at hf ⊢
    exact matched_between W0 w b l d m ad c v0 v1 v2 t0 t1 t2 (hcell 0 _ rfl) (hcell 1 _ rfl) (hcell 2 _ rfl) hc (hK.2 0 _ _ rfl rfl) (hK.2 1 _ _ rfl rfl) (hK.2 2 _ _ rfl rfl) h hf
   | true =>
    have e1 : zb (ntL true) x [t0, t1, t2] (shws [t0, t1, t2]) = opd 5 t0 (shw t0).1 ++ [32, 78, 79, 84] ++ [32, 66, 69, 84, 87, 69, 69, 78, 32] ++ opd 5 t1 (shw t1).1 ++ [32, 65, 78, 68, 32] ++ opd 5 t2 (shw t2).1 := by simp [zb, hx, shws, opn, zu, kid, txt, ntL]
    rw [e1] at hf ⊢
    exact matched_between_not W0 w b l d m ad c v0 v1 v2 t0 t1 t2 (hcell 0 _ rfl) (hcell 1 _ rfl) (hcell 2 _ rfl) hc (hK.2 0 _ _ rfl rfl) (hK.2 1 _ _ rfl rfl) (hK.2 2 _ _ rfl rfl) h hf
 · have hk := hn.2.2 hx
   obtain ⟨t0, ts, rfl⟩ : ∃ t0 ts, ks = t0 :: ts := by
    match ks, hk with
    | t0 :: ts, _ => exact ⟨t0, ts, rfl⟩
   have hvl := hK.1
   obtain ⟨v0, vr, rfl⟩ : ∃ v0 vr, vs = v0 :: vr := by
    match vs, hvl with
    | t0 :: ts, _ => exact ⟨t0, ts, rfl⟩
   simp only [List.length_cons] at hk hvl hc hks ⊢
   have e2 : maxD x 0 ((t0 :: ts).zip (deps (t0 :: ts))) = max (opdD 5 t0 (dep t0)) (1 + mxl ts) := by
    have h3 := maxD_one x 1 (fun k hk => by unfold zu; rw [hx]; simp; intro h0; omega) (fun k hk => by unfold xi; rw [hx, if_pos (by omega)]) ts 1 (Nat.le_refl _) (by intro h0; rw [h0] at hk; simp at hk);simp only [deps, List.zip_cons_cons, maxD, h3]
    have hw : zu x.f0 0 = 5 := by rw [hx]; rfl
    have hne : xi x.f0 0 = 0 := by rw [hx]; rfl
    rw [hw, hne]; omega
   rw [e2] at hf ⊢;rw [hx]
   have hrow : RowV W0 (some ⟨ad.block, ad.off + 1, none⟩) vr := ⟨_, rfl, fun i v hv => by
    have h5 := hcell (i + 1) v (by simpa using hv);rw [xx ad (i + 1) (by omega)] at h5
    by_cases h0 : i = 0
    · subst h0; rw [zy]; exact h5
    · rw [xx _ i (by omega)]
      have : ad.off + 1 + i = ad.off + (i + 1) := by omega
      show W0.cell? ⟨ad.block, ad.off + 1 + i, none⟩ = _
      rw [this]; exact h5⟩
   have hKr : AllOK W0 vr ts := ⟨by omega, fun i v t hv ht => hK.2 (i + 1) v t (by simpa using hv) (by simpa using ht)⟩
   cases nt with
   | false =>
    have e1 : zb (ntL false) x (t0 :: ts) (shws (t0 :: ts)) = opd 5 t0 (shw t0).1 ++ ([32, 73, 78, 32, 40] ++ (lstL (its ts) ++ [41])) := by simp [zb, hx, shws, opn, zu, kid, txt, ntL, its]
    rw [e1] at hf ⊢
    exact matched_in W0 w b l d m ad c v0 t0 vr ts (hcell 0 _ rfl) (hK.2 0 _ _ rfl rfl) hrow hKr (by omega) (by omega) (by omega) h hf
   | true =>
    have e1 : zb (ntL true) x (t0 :: ts) (shws (t0 :: ts)) = opd 5 t0 (shw t0).1 ++ ([32, 78, 79, 84] ++ ([32, 73, 78, 32, 40] ++ (lstL (its ts) ++ [41]))) := by simp [zb, hx, shws, opn, zu, kid, txt, ntL, its]
    rw [e1] at hf ⊢
    exact matched_in_not W0 w b l d m ad c v0 t0 vr ts (hcell 0 _ rfl) (hK.2 0 _ _ rfl rfl) hrow hKr (by omega) (by omega) (by omega) h hf
theorem bok_choice (x : Nd) (ks : List Tr) (vs : List Value) (A : Option Addr) (c : Nat) (hx : x.f0 = 28) (hn : 3 ≤ ks.length) (hc : ks.length ≤ c) (hr : RowV W0 A vs) (hK : AllOK W0 vs ks) (hks : ks.length ≤ 1000000000) : vP W0 (.iface 273 (.agg #[.slice A ks.length c])) ⟨x, ks⟩ := by
 intro w b l d m h hf;obtain ⟨ad, rfl, hcell⟩ := hr;obtain ⟨q, hq⟩ : ∃ q, ks.length = q + 1 := ⟨ks.length - 1, by omega⟩
 have hne : ks ≠ [] := by intro h0; rw [h0] at hn; simp at hn
 have hql : q < ks.length := by omega
 have e1 : (shw ⟨x, ks⟩).1 = vj ks q := by
  have h1 : ks.length - 1 = q := by omega
  simp only [shw, zb, hx, vj, h1, opn, xS ks q hql, vd ks q hql, whenL_eq, its]
  simp [zu]
 have e2 : dep ⟨x, ks⟩ = mxl ks + 1 := by
  rw [xE _ _ (by omega)]
  exact maxD_all x 1 (fun k => by rw [hx]; simp [zu]) (fun k => by rw [hx]; simp [xi]) ks 0 hne
 rw [e1, e2] at hf ⊢;rw [hq]
 exact bare_choice W0 w b l d m ad (q + 1) c _ _ (fun w l d m h hf => choice_calls W0 w b l d m ad c vs ks q hq hks (by omega) hcell hK h hf) h hf
theorem bok_called (x : Nd) (ks : List Tr) (vs : List Value) (A : Option Addr) (c : Nat) (hx : x.f0 = 29) (hn : 1 ≤ ks.length) (hr : RowV W0 A vs) (hK : AllOK W0 vs ks) (hks : ks.length ≤ 1000000000) : vP W0 (.iface 277 (.agg #[.string x.f3, .slice A ks.length c])) ⟨x, ks⟩ := by
 intro w b l d m h hf
 have hne : ks ≠ [] := by intro h0; rw [h0] at hn; simp at hn
 have e1 : (shw ⟨x, ks⟩).1 = x.f3.data.toList ++ (40 :: (lstL (its ks) ++ [41])) := by
  simp [shw, zb, hx, its]
 have e2 : dep ⟨x, ks⟩ = mxl ks + 1 := by
  rw [xE _ _ (by omega)]
  exact maxD_all x 1 (fun k => by rw [hx]; simp [zu]) (fun k => by rw [hx]; simp [xi]) ks 0 hne
 rw [e1, e2] at hf ⊢
 exact bare_called W0 w b l d m x.f3 A c vs ks hr hK hks h hf
theorem bare_ok : ∀ (n : Nat) (v : Value) (t : Tr), zS t ≤ n → n ≤ 1000000000 → IsT W0 v t → vP W0 v t
 | 0, v, t, hn, _, _ => by have := nodes_pos t; omega
 | n + 1, v, t, hn, hb, hI => by
  have ih : ∀ v' t', zS t' < zS t → IsT W0 v' t' → zH W0 v' t' := fun v' t' hlt hI' => by
   obtain ⟨T, u, rfl⟩ := zL hI'
   exact tree_of_bare W0 _ t' rfl (has_level hI') (bare_ok n _ t' (by omega) (by omega) hI')
  have hall : ∀ (x : Nd) (ks : List Tr) (vs : List Value), t = ⟨x, ks⟩ → vs.length = ks.length → (∀ (i : Nat) v t, vs[i]? = some v → ks[i]? = some t → IsT W0 v t) → AllOK W0 vs ks := fun x ks vs ht hl h => ⟨hl, fun i v' t' hv' ht' => by
   refine ih v' t' ?_ (h i v' t' hv' ht');obtain ⟨hi, rfl⟩ := List.getElem?_eq_some_iff.1 ht';have := nodes_at ks i hi
   rw [ht]; simp only [zS]; omega⟩
  have hlen : ∀ (x : Nd) (ks : List Tr), t = ⟨x, ks⟩ → ks.length ≤ 1000000000 := fun x ks ht => by
   have := nodess_len ks
   rw [ht] at hn; simp only [zS] at hn; omega
  cases hI with
  | leaf x h1 h6 => exact bok_leaf W0 x h1 h6
  | ahead x t v hx h => exact bok_ahead W0 x t v hx h (ih v t (by simp [zS, zD]) h)
  | sugar x t o sl hx ht h =>
   have hlt : zS t ≤ n := by simp only [zS, zD] at hn; omega
   cases h with
   | matched x2 ks vs A c ac ab hc hl hr h =>
    have hk : ∀ (i : Nat) v' t', vs[i]? = some v' → ks[i]? = some t' → zH W0 v' t' := fun i v' t' hv' ht' => by
     refine ih v' t' ?_ (h i v' t' hv' ht');obtain ⟨hi, rfl⟩ := List.getElem?_eq_some_iff.1 ht';have := nodes_at ks i hi
     simp only [zS, zD]; omega
    have af : ks.length ≤ 1000000000 := by have := nodess_len ks; simp only [zS, zD] at hn; omega
    intro w b l d m h hf;have hm : zI (kid [(⟨x2, ks⟩ : Tr)] 0).f0.f0 = true := ht
    have hnm : ¬ (x2.f0 = 8 ∧ zI (kid ks 0).f0.f0 = true) := by have := (xM _).1 ac; omega
    have e1 : (shw ⟨x, [⟨x2, ks⟩]⟩).1 = zb (ntL true) x2 ks (shws ks) := by
     have h7 : (shw ⟨x, [⟨x2, ks⟩]⟩).1 = (txt (shws [(⟨x2, ks⟩ : Tr)]) 0).2 := by
      simp only [shw, zb, if_neg (show ¬ x.f0 ≤ 6 by omega), if_neg (show ¬ x.f0 = 7 by omega), if_pos hx, if_pos hm]
     rw [h7]; simp [shws, txt, shw, ntL]
    have e2 : dep ⟨x, [⟨x2, ks⟩]⟩ = maxD x2 0 (ks.zip (deps ks)) := by
     rw [← xE x2 ks hnm]
     have h8 : dep ⟨x, [⟨x2, ks⟩]⟩ = (deps [(⟨x2, ks⟩ : Tr)]).getD 0 0 := by rw [dep, if_pos ⟨hx, hm⟩]
     rw [h8]; simp [deps]
    rw [e1, e2] at hf ⊢
    exact bok_mat W0 x2 ks vs A c true ac ab hc hr ⟨hl, hk⟩ af w b l d m h hf
  | null x t v hx h => exact bok_null W0 x t v hx h (ih v t (by simp [zS, zD]) h)
  | binary x a c va vc h1 h2 ha hc => exact bok_binary W0 x a c va vc h1 h2 ha hc (ih va a (by simp [zS, zD]; omega) ha) (ih vc c (by simp [zS, zD]; omega) hc)
  | matched x ks vs A c hx ab hc hl hr h =>
   intro w b l d m hw hf
   have hnm : ¬ (x.f0 = 8 ∧ zI (kid ks 0).f0.f0 = true) := by have := (xM _).1 hx; omega
   have e1 : (shw ⟨x, ks⟩).1 = zb (ntL false) x ks (shws ks) := by simp [shw, ntL]
   rw [e1, xE x ks hnm] at hf ⊢
   exact bok_mat W0 x ks vs A c false hx ab hc hr (hall x ks vs rfl hl h) (hlen x ks rfl) w b l d m hw hf
  | choice x ks vs A c hx ab hc hl hr h => exact bok_choice W0 x ks vs A c hx ab.1 hc hr (hall x ks vs rfl hl h) (hlen x ks rfl)
  | called x ks vs A c hx ab hc hl hr h => exact bok_called W0 x ks vs A c hx ab hr (hall x ks vs rfl hl h) (hlen x ks rfl)
end
end Go.Proofs.YtfmgbgkcmmpcfaaGreatDoor.PTk

