/- For every list of zK, of at most 1048576 values and letters in all, tongue.PrintExpr gives the text, or the error, that the document's PrintExpr gives, before and after the zK are changed; the list stays as it was. Conditions: the bound of the second form (uptoSmall); the listed package variables hold what the program's text lays (the card ties them). -/
import Derived.Test.YtfmgbgkcmmpcfaaDoorCards
import Derived.Test.YtfmgbgkcmmpcfaaDoorTie
import Derived.Test.YtfmgbgkcmmpcfaaDoorYArgE
import Derived.WalkKit
import Derived.ProofKit
import Derived.OpenShut
import Derived.Deep.DeepHandedRow
import Derived.Lib.LaidTab
import Derived.Lay
import Derived.Carry
namespace Go.Proofs.YtfmgbgkcmmpcfaaDoor.tonguePrintsExpr
open Go.ChangeShapes Go.WideShapes Go.ChangeAt Go.RowKit
open Go.Proofs.YtfmgbgkcmmpcfaaDoor.PTx Go.Proofs.YtfmgbgkcmmpcfaaDoor.ArgE
set_option linter.unusedVariables false
theorem own : ownKnob Tryd.prog.godebug = none := by kernel_rfl
theorem laidOut : laidOutB Tryd.prog = true := by kernel_rfl
set_option maxRecDepth 100000 in
theorem contract (H : Type) (enc : TypeId × Value → H) (W : World) (base : Nat) (args : Array Value) (ds gs : List (DataW H)) (before : List MemPlace)
 (hval : ∀ (j : Nat) t v, Tryd.f3.params[j]? = some t → args[j]? = some v → Value.okWide Tryd.prog W .any base t v)
 (hW : DataW.Whole enc Tryd.prog Tryd.f3.params.toList Rows.tonguePrintsExprSpec.vars false W args.toList ds gs before) (hk : Rows.uptoSmall H (ds ++ gs) = true) (hG : GT W) :
 Calls Tryd.prog 3 args W fun e W' => ∃ v, e = .returned v ∧ Rows.tonguePrintsExprSpec.post enc Tryd.prog Tryd.f3 false true false false W args v W' := by
 have hW' := hW;obtain ⟨p, q, ab, hV, rfl, hfz, hnd⟩ := hW;have hA : DataW.TrodAll enc Tryd.prog W 0 (fun _ => true) true Tryd.f3.params.toList args.toList ds p := ab;rw [Tryd.params3] at hA hval;obtain ⟨v0, ap, d0, au, p0, q0, hargs, rfl, rfl, h0, r0⟩ := trodAll_cons hA;obtain ⟨rfl, rfl, rfl⟩ := trodAll_nil r0
 obtain rfl : args = #[v0] := by cases args; simp_all
 obtain ⟨rfl, rfl⟩ := trodVars_none hV;have k0 := h0
 have ag : ∀ x ∈ p0, x.block < W.heap.size := by obtain ⟨m, hm⟩ := k0; exact DataW.trod_lt m _ _ _ hm
 obtain ⟨a1, am, an, aa⟩ := okWide_slice Tryd.underlying23 (hval 0 23 v0 rfl rfl);subst aa;obtain ⟨fuel, ah⟩ := h0;obtain ⟨A1, rs, c1, aa, ai, aj, g1⟩ := slice_K k31 Tryd.underlying23 c4_31 goodNode read_node ah
 cases aa
 have hb : Rows.uptoBulkAll _ ≤ 1048576 := of_decide_eq_true hk;simp only [List.append_nil, Rows.uptoBulkAll, Nat.add_zero] at hb;have hO := inv_of g1 hb;obtain ⟨k, hf⟩ := law_true rs hO;clear ab
 refine (qi.calls k _ _ rs true W aj ai (hf k (Nat.le_refl _)) hG).mono fun e W' ⟨he, bel⟩ => ?_
 subst he
 exact ⟨_, rfl, _, _, _, [], _, [], hW', trodAll_mk1 (shut_bool Tryd.underlying4 _), (trodAll_cons_mk (Below.trod laidOut (by kernel_rfl) (of_decide_eq_true (by kernel_rfl)) k0 bel ag) trodAll_mk0), rfl, bel.frame _, fun h => by cases h⟩
noncomputable def args0 : Array Value := #[.slice none 0 0]
theorem laid_met (os : Os) : laidMet Tryd.prog Rows.tonguePrintsExprUptoRow.laid ((World.laidAll Tryd.prog os Rows.tonguePrintsExprUptoRow.laid).forCall (fun _ _ => 0) ⟨#[], args0, []⟩).memory :=
 laidMet_laidAll args0 (by kernel_rfl) (by kernel_rfl)
theorem reads (os : Os) {H : Type} (enc : TypeId × Value → H) : ∃ places, DataW.whole enc Tryd.prog ((World.laidAll Tryd.prog os Rows.tonguePrintsExprUptoRow.laid).forCall (fun _ _ => 0) ⟨#[], args0, []⟩).memory Tryd.f3.params.toList Rows.tonguePrintsExprSpec.vars false args0.toList 8 = some ([.nil], [], places) :=
 ⟨[], by kernel_rfl⟩
set_option maxRecDepth 100000 in
theorem liftedUpto (os : Os) (started : os.Started) (H : Type) (enc : TypeId × Value → H) (F : Stop.Interp) :
 ReturnsInHanded {} Tryd.checked os 3 .any ((Rows.OpenSpec.upto Rows.tonguePrintsExprSpec).preRow enc Tryd.prog Tryd.f3 Rows.tonguePrintsExprUptoRow.domain false Rows.tonguePrintsExprUptoRow.laid) (((Rows.OpenSpec.upto Rows.tonguePrintsExprSpec).at F).post enc Tryd.prog Tryd.f3 false true false false) := by
 obtain ⟨places, hx⟩ := reads os enc;refine returnsInHanded_of_row (C := Tryd.checked) (s := Rows.OpenSpec.upto Rows.tonguePrintsExprSpec) own started (by kernel_rfl) Tryd.func3
  (witness_row_at (enc := enc) (C := Tryd.checked) false (World.laidAll Tryd.prog os Rows.tonguePrintsExprUptoRow.laid) args0 (World.laidAll_os _ _ _) (by kernel_rfl) (by kernel_rfl) (by kernel_rfl)
   (OpenSpec.preRow_of_cond 8 hx (by kernel_rfl) (fun k hk => by cases hk; kernel_rfl) (by kernel_rfl) (laid_met os))) ?_
 intro W base args ds gs before hval hW _ hcond _ hL hsh _
 exact contract H enc W base args ds gs before hval hW (hcond _ rfl) (globals_of (by rfl) hL hsh)
theorem saidUpto : Rows.TonguePrintsExprUptoSaid :=
 OpenClaim.holds_of_cond 3 Tryd.f3 rfl rfl rfl rfl rfl rfl rfl ⟨rfl, rfl, rfl, rfl, rfl⟩ rfl rfl rfl rfl rfl (by kernel_rfl) Tryd.func3 (by kernel_rfl)
  (of_decide_eq_true (by kernel_rfl)) (by unfold Func.isWrapper; first | (rw [if_pos (by decide +kernel)]; kernel_rfl) | (rw [if_neg (by decide +kernel)]; exact ⟨rfl, rfl⟩))
  (fun os started H enc _ F => by rw [OpenClaim.pre_eq_preRow]; exact liftedUpto os started H enc F)
theorem plain (f : FuncId) (fn : Func) (hf : Tryd.pinned.checked.prog.funcNamed "strata/stratalaw15.TonguePrintsExpr" = some f) (hfn : Tryd.pinned.checked.prog.funcs[f]? = some fn) :
 true = Tryd.pinned.checked.prog.looks [] ∧ ∀ (j : Nat) t, fn.params[j]? = some t → Tryd.pinned.checked.prog.wantsStandIn t = false := by
 obtain rfl : f = 3 := Option.some.inj ((show Tryd.prog.funcNamed "strata/stratalaw15.TonguePrintsExpr" = some 3 by kernel_rfl).symm.trans hf) |>.symm
 obtain rfl : fn = Tryd.f3 := (Option.some.inj (Tryd.func3.symm.trans hfn)).symm;refine ⟨by kernel_rfl, fun j t ht => ?_⟩;rw [Tryd.params3] at ht;have hm := Array.mem_of_getElem? ht;simp only [Array.mem_def, List.mem_cons, List.not_mem_nil, or_false] at hm;subst hm
 exact (show Tryd.prog.wantsStandIn 23 = false by kernel_rfl)
theorem cardUpto : Rows.TonguePrintsExprUptoCardSaid :=
 Claim7.holds_tied_plain_at .later [] _ _ _ _ saidUpto (fun _ h => by cases h) (by kernel_rfl) (fun _ h => by cases h) tonguePrintsExprUpto_row_tie rfl ⟨rfl, rfl⟩ (by kernel_rfl) rfl plain (by kernel_rfl)
#print axioms cardUpto
end Go.Proofs.YtfmgbgkcmmpcfaaDoor.tonguePrintsExpr
namespace Go.Proofs.YtfmgbgkcmmpcfaaDoor
theorem tonguePrintsExprUpto_holds : Rows.TonguePrintsExprUptoCardSaid := tonguePrintsExpr.cardUpto
end Go.Proofs.YtfmgbgkcmmpcfaaDoor

