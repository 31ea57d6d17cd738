/- For every list of nodes and every list of columns, of at most 1048576 values and letters in all, plan.TypeOf gives the kind, or the error, that the document's TypeOf gives; the lists stay as they were. Conditions: the bound of the second form (uptoSmall); the listed package variables hold what the program's text lays (the card ties them). -/
import Derived.Test.YtfmgbgkcmmpcfaaGreatDoorCards
import Derived.Test.YtfmgbgkcmmpcfaaGreatDoorTie
import Derived.Test.YtfmgbgkcmmpcfaaGreatDoorCArgK
import Derived.WalkKit
import Derived.ProofKit
import Derived.OpenShut
import Derived.Deep.DeepHandedRow
import Derived.Lib.LaidTab
import Derived.Lay
import Derived.Carry
import Derived.LaidHandle
namespace Go.Proofs.YtfmgbgkcmmpcfaaGreatDoor.planKinds
open Go.ChangeShapes Go.WideShapes Go.ChangeAt Go.RowKit
open Go.Proofs.YtfmgbgkcmmpcfaaGreatDoor.PTk Go.Proofs.YtfmgbgkcmmpcfaaGreatDoor.ArgK
set_option linter.unusedVariables false
theorem own : ownKnob Tryz.prog.godebug = none := by kernel_rfl
theorem laidOut : laidOutB Tryz.prog = true := by kernel_rfl
set_option maxRecDepth 100000 in
theorem contract (H : Type) (enc : TypeId × Value → H) (W : World) (base : Nat) (args : Array Value) (ds gs : List (DataW H)) (before : List MemPlace)
 (hval : ∀ (j : Nat) t v, Tryz.f5.params[j]? = some t → args[j]? = some v → Value.okWide Tryz.prog W .any base t v)
 (hW : DataW.Whole enc Tryz.prog Tryz.f5.params.toList Rows.planKindsSpec.vars false W args.toList ds gs before) (hk : Rows.uptoSmall H (ds ++ gs) = true) (hG : GL W) :
 Calls Tryz.prog 5 args W fun e W' => ∃ v, e = .returned v ∧ Rows.planKindsSpec.post enc Tryz.prog Tryz.f5 false true false false W args v W' := by
 have hW' := hW;obtain ⟨p, q, ac, hV, rfl, hfz, hnd⟩ := hW;have hA : DataW.TrodAll enc Tryz.prog W 0 (fun _ => true) true Tryz.f5.params.toList args.toList ds p := ac;rw [Tryz.params5] at hA hval;obtain ⟨v0, a8, d0, a9, p0, q0, hargs, rfl, rfl, h0, r0⟩ := trodAll_cons hA;obtain ⟨v1, ba, d1, bb, p1, q1, rfl, rfl, rfl, h1, r1⟩ := trodAll_cons r0;obtain ⟨rfl, rfl, rfl⟩ := trodAll_nil r1
 obtain rfl : args = #[v0, v1] := by cases args; simp_all
 obtain ⟨rfl, rfl⟩ := trodVars_none hV;have k0 := h0;have k1 := h1
 have ah : ∀ x ∈ p0, x.block < W.heap.size := by obtain ⟨m, hm⟩ := k0; exact DataW.trod_lt m _ _ _ hm
 have ai : ∀ x ∈ p1, x.block < W.heap.size := by obtain ⟨m, hm⟩ := k1; exact DataW.trod_lt m _ _ _ hm
 obtain ⟨a1, a0, a3, aa⟩ := okWide_slice Tryz.underlying28 (hval 0 28 v0 rfl rfl);obtain ⟨a2, a4, a5, ab⟩ := okWide_slice Tryz.underlying23 (hval 1 23 v1 rfl rfl);subst aa;subst ab;obtain ⟨fuel, aj⟩ := h0;obtain ⟨ap, ak⟩ := h1;obtain ⟨A1, rs, c1, aa, al, am, g1⟩ := slice_K k86 Tryz.underlying28 c4_86 goodNode read_node aj
 cases aa
 obtain ⟨A2, cs, c2, ab, an, ao, g2⟩ := slice_K k93 Tryz.underlying23 c3_93 goodCol read_col ak
 cases ab
 have hb : Rows.uptoBulkAll _ ≤ 1048576 := of_decide_eq_true hk;simp only [List.append_nil, Rows.uptoBulkAll, Nat.add_zero] at hb;have hO := inv_of g1 (show Rows.uptoBulk d0 ≤ 1048576 by omega);have hQ := cols_of g2 (show Rows.uptoBulk d1 ≤ 1048576 by omega);have hf := law_true rs cs hO (by omega);clear ac
 refine (zJ.calls (rs.length + cs.length + 2) _ _ rs _ _ cs true W am al ao an hf hG).mono fun e W' ⟨he, bel⟩ => ?_
 subst he
 exact ⟨_, rfl, _, _, _, [], _, [], hW', trodAll_mk1 (shut_bool Tryz.underlying4 _), (trodAll_cons_mk (Below.trod laidOut (by kernel_rfl) (of_decide_eq_true (by kernel_rfl)) k0 bel ah) (trodAll_cons_mk (Below.trod laidOut (by kernel_rfl) (of_decide_eq_true (by kernel_rfl)) k1 bel ai) trodAll_mk0)), rfl, bel.frame _, fun h => by cases h⟩
noncomputable def args0 : Array Value := #[.slice none 0 0, .slice none 0 0]
noncomputable def data : List (String × DataW Unit) := Rows.planKindsUptoRow.laid.filter fun x => x.2.handleName?.isNone
noncomputable def base (os : Os) : World :=
 let w0 := World.holding Tryz.prog os ⟨#[], #[], []⟩
 { w0 with heap := w0.heap.modify 0 fun
  | .cells _ t frozen => .cells #[.iface 213 (.agg #[.pointer (some ⟨7, 111, none⟩)])] t frozen
  | o => o }
noncomputable def laidW (os : Os) : World := (base os).layVars Tryz.prog data
theorem laidW_os (os : Os) : (laidW os).os = os := World.layVars_os _ _ _
theorem laid_met (os : Os) : laidMetH Tryz.prog Rows.planKindsUptoRow.laid ((laidW os).forCall (fun _ _ => 0) ⟨#[], args0, []⟩).memory := by
 refine laidMetH_of_parts ?_ (by kernel_rfl)
 have e1 : (data.filter fun x => (data.map (·.1)).contains x.1) = data := List.filter_eq_self.2 fun x hx => List.contains_iff_mem.2 (List.mem_map.2 ⟨x, hx, rfl⟩)
 have e2 : (data.filter fun x => !(data.map (·.1)).contains x.1) = [] := List.filter_eq_nil_iff.2 fun x hx => by rw [List.contains_iff_mem.2 (List.mem_map.2 ⟨x, hx, rfl⟩)]; simp
 have h : laidMet Tryz.prog data (laidW os) := laidMet_layVars (w0 := base os) (data.map (·.1)) [] (by rw [e1]; rfl) (by rw [e1]; kernel_rfl) (by rw [e1]; kernel_rfl) (by rw [e2]; exact LaidIn.none)
 exact h.of_heap (by simp [World.memory, World.forCall, Input.heap])
theorem reads (os : Os) {H : Type} (enc : TypeId × Value → H) : ∃ places, DataW.whole enc Tryz.prog ((laidW os).forCall (fun _ _ => 0) ⟨#[], args0, []⟩).memory Tryz.f5.params.toList Rows.planKindsSpec.vars false args0.toList 8 = some ([.nil, .nil], [], places) :=
 ⟨[], by kernel_rfl⟩
set_option maxRecDepth 100000 in
theorem liftedUpto (os : Os) (started : os.Started) (H : Type) (enc : TypeId × Value → H) (F : Stop.Interp) :
 ReturnsInHanded {} Tryz.checked os 5 .any ((Rows.OpenSpec.upto Rows.planKindsSpec).preRow enc Tryz.prog Tryz.f5 Rows.planKindsUptoRow.domain false Rows.planKindsUptoRow.laid) (((Rows.OpenSpec.upto Rows.planKindsSpec).at F).post enc Tryz.prog Tryz.f5 false true false false) := by
 obtain ⟨places, hx⟩ := reads os enc;refine returnsInHanded_of_row (C := Tryz.checked) (s := Rows.OpenSpec.upto Rows.planKindsSpec) own started (by kernel_rfl) Tryz.func5
  (witness_row_at (enc := enc) (C := Tryz.checked) false (laidW os) args0 (laidW_os os) (by kernel_rfl) (by kernel_rfl) (by kernel_rfl)
   (OpenSpec.preRow_of_cond 8 hx (by kernel_rfl) (fun k hk => by cases hk; kernel_rfl) (by kernel_rfl) (laid_met os))) ?_
 intro W base args ds gs before hval hW _ hcond _ hL hsh _
 exact contract H enc W base args ds gs before hval hW (hcond _ rfl) (globals_of (by rfl) (by rfl) hL hsh)
theorem saidUpto : Rows.PlanKindsUptoSaid :=
 OpenClaim.holds_of_cond 5 Tryz.f5 rfl rfl rfl rfl rfl rfl rfl ⟨rfl, rfl, rfl, rfl, rfl⟩ rfl rfl rfl rfl rfl (by kernel_rfl) Tryz.func5 (by kernel_rfl)
  (of_decide_eq_true (by kernel_rfl)) (by unfold Func.isWrapper; first | (rw [if_pos (by decide +kernel)]; kernel_rfl) | (rw [if_neg (by decide +kernel)]; exact ⟨rfl, rfl⟩))
  (fun os started H enc _ F => by rw [OpenClaim.pre_eq_preRow]; exact liftedUpto os started H enc F)
theorem plain (f : FuncId) (fn : Func) (hf : Tryz.pinned.checked.prog.funcNamed "strata/stratalaw16.PlanKinds" = some f) (hfn : Tryz.pinned.checked.prog.funcs[f]? = some fn) :
 true = Tryz.pinned.checked.prog.looks [] ∧ ∀ (j : Nat) t, fn.params[j]? = some t → Tryz.pinned.checked.prog.wantsStandIn t = false := by
 obtain rfl : f = 5 := Option.some.inj ((show Tryz.prog.funcNamed "strata/stratalaw16.PlanKinds" = some 5 by kernel_rfl).symm.trans hf) |>.symm
 obtain rfl : fn = Tryz.f5 := (Option.some.inj (Tryz.func5.symm.trans hfn)).symm;refine ⟨by kernel_rfl, fun j t ht => ?_⟩;rw [Tryz.params5] at ht;have hm := Array.mem_of_getElem? ht;simp only [Array.mem_def, List.mem_cons, List.not_mem_nil, or_false] at hm
 rcases hm with rfl | rfl
 · exact (show Tryz.prog.wantsStandIn 28 = false by kernel_rfl)
 · exact (show Tryz.prog.wantsStandIn 23 = false by kernel_rfl)
theorem cardUpto : Rows.PlanKindsUptoCardSaid :=
 Claim7.holds_tied_plain_at .later [] _ _ _ _ saidUpto (fun _ h => by cases h) (by kernel_rfl) (fun _ h => by cases h) planKindsUpto_row_tie rfl ⟨rfl, rfl⟩ (by kernel_rfl) rfl plain (by kernel_rfl)
#print axioms cardUpto
end Go.Proofs.YtfmgbgkcmmpcfaaGreatDoor.planKinds
namespace Go.Proofs.YtfmgbgkcmmpcfaaGreatDoor
theorem planKindsUpto_holds : Rows.PlanKindsUptoCardSaid := planKinds.cardUpto
end Go.Proofs.YtfmgbgkcmmpcfaaGreatDoor

