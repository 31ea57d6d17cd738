/- For every text and every pattern of at most 1048576 letters in all, plan.Like answers what the document's Like answers. Conditions: the bound of the second form (uptoSmall). -/
import Derived.Test.YtggbhdcgfnjogaaRows
import Derived.Test.YtggbhdcgfnjogaaLikeLaw
import Derived.Test.YtggbhdcgfnjogaaCharLaw
import Derived.WalkKit
import Derived.ProofKit
import Derived.OpenShut
import Derived.ShutString
import Derived.JoinedCond
namespace Go.Proofs.Ytggbhdcgfnjogaa.planLikes
open Go.ChangeShapes Go.WideShapes Go.ChangeAt Go.RowKit
open Go.ChangeMaps (open_string shut_string)
open Go.Proofs.Ytggbhdcgfnjogaa.PLk Go.Proofs.YtggbhdcgfnjogaaW.PrintWords
set_option linter.unusedVariables false

theorem likes (a0 a1 : ByteArray) (h0 : a0.size ≤ 1048576) (h1 : a1.size ≤ 1048576) : ∃ k, stratalaw16_PlanLikes.f k a0 a1 = some true := by
  refine Ev.rounds ?_
  have c0 := CharLaw.plan_chars a0 (by omega)
  have c1 := CharLaw.plan_chars a1 (by omega)
  have r0 := CharLaw.ref_chars a0 (by omega)
  have r1 := CharLaw.ref_chars a1 (by omega)
  have n0 := CharLaw.cuts_len a0 (by omega) a0.size 0 (Nat.zero_le _)
  have n1 := CharLaw.cuts_len a1 (by omega) a1.size 0 (Nat.zero_le _)
  generalize CharLaw.cuts a0 a0.size 0 = t at *
  generalize CharLaw.cuts a1 a1.size 0 = p at *
  have g := LikeLaw.go_list t p (by omega) (by omega)
  have d := LikeLaw.ref_list t p (by omega) (by omega)
  have hw : wrap64 ((t.length : Int) + 1) = ((t.length + 1 : Nat) : Int) := by rw [LikeLaw.wrap_small (by omega) (by omega)]; rfl
  have e1 : Ev (fun k => plan_Like.f k a0 a1) (LikeLaw.yes (LikeLaw.M (LikeLaw.ch t) (LikeLaw.ch p))) := by
    unfold plan_Like.f
    exact Ev.bind c0 (Ev.bind c1 g)
  have e2 : Ev (fun k => strataref16_Like.f k a0 a1) (LikeLaw.yes (LikeLaw.M (LikeLaw.ch t) (LikeLaw.ch p))) := by
    unfold strataref16_Like.f
    refine Ev.bind r0 (Ev.bind r1 (Ev.congr (fun k => ?_) d))
    rw [hw, if_pos (by omega), Int.toNat_natCast, if_pos (by omega)]
    simp only [Option.bind_some]
    rw [if_pos (by simp)]
    rfl
  unfold stratalaw16_PlanLikes.f
  refine Ev.bind e1 (Ev.bind e2 (Ev.congr (fun k => ?_) (Ev.now true)))
  simp

theorem own : ownKnob Try.prog.godebug = none := by kernel_rfl

theorem short {H : Type} {s t : ByteArray} (hk : Rows.uptoSmall H [.lit (.string s.data.toList), .lit (.string t.data.toList)] = true) : s.size ≤ 1048576 ∧ t.size ≤ 1048576 := by
  have h : Rows.uptoBulkAll [DataW.lit (H := H) (.string s.data.toList), .lit (.string t.data.toList)] ≤ 1048576 := of_decide_eq_true hk
  simp only [Rows.uptoBulkAll, Rows.uptoBulk] at h
  have e : s.data.toList.length = s.size := by rw [Array.length_toList]; rfl
  have e' : t.data.toList.length = t.size := by rw [Array.length_toList]; rfl
  omega

theorem contract (H : Type) (enc : TypeId × Value → H) (W : World) (base : Nat) (args : Array Value) (ds gs : List (DataW H)) (before : List MemPlace)
    (hval : ∀ (j : Nat) t v, Try.f7.params[j]? = some t → args[j]? = some v → Value.okWide Try.prog W .any base t v)
    (hW : DataW.Whole enc Try.prog Try.f7.params.toList Rows.planLikesSpec.vars false W args.toList ds gs before) (hk : Rows.uptoSmall H (ds ++ gs) = true) :
    Calls Try.prog 7 args W fun e W' => ∃ v, e = .returned v ∧ Rows.planLikesSpec.post enc Try.prog Try.f7 false true false false W args v W' := by
  have hW' := hW
  obtain ⟨p, q, hA0, hV, rfl, hfz, hnd⟩ := hW
  have hA : DataW.TrodAll enc Try.prog W 0 (fun _ => true) true Try.f7.params.toList args.toList ds p := hA0
  rw [Try.params7] at hA hval
  obtain ⟨v0, vs0, d0, ds0, p0, q0, hargs, rfl, rfl, h0, r0⟩ := trodAll_cons hA
  obtain ⟨v1, vs1, d1, ds1, p1, q1, rfl, rfl, rfl, h1, r1⟩ := trodAll_cons r0
  obtain ⟨rfl, rfl, rfl⟩ := trodAll_nil r1
  obtain rfl : args = #[v0, v1] := by cases args; simp_all
  obtain ⟨rfl, rfl⟩ := trodVars_none hV
  obtain ⟨s, rfl, rfl, rfl, hs⟩ := open_string Try.underlying9 (hval 0 9 v0 rfl rfl) h0
  obtain ⟨t, rfl, rfl, rfl, ht⟩ := open_string Try.underlying9 (hval 1 9 v1 rfl rfl) h1
  clear hA0
  simp only [List.append_nil] at hk
  obtain ⟨b0, b1⟩ := short hk
  obtain ⟨k, hf⟩ := likes s t b0 b1
  refine (stratalaw16_PlanLikes.calls k s t true W hf).mono fun e W' ⟨he, bel⟩ => ?_
  subst he
  exact ⟨_, rfl, _, _, _, [], _, [], hW', trodAll_mk1 (shut_bool Try.underlying4 _), (trodAll_cons_mk (shut_string Try.underlying9 hs) (trodAll_cons_mk (shut_string Try.underlying9 ht) trodAll_mk0)), rfl, bel.frame _, fun h => by cases h⟩

set_option maxRecDepth 100000 in
theorem lifted (os : Os) (started : os.Started) (H : Type) (enc : TypeId × Value → H) (F : Stop.Interp) :
    ReturnsInHanded {} Try.checked os 7 .any ((Rows.OpenSpec.upto Rows.planLikesSpec).pre6 enc Try.prog Try.f7 Rows.planLikesUptoRow.domain false) (((Rows.OpenSpec.upto Rows.planLikesSpec).at F).post enc Try.prog Try.f7 false true false false) := by
  refine returnsInHanded_of_cond (C := Try.checked) (s := Rows.OpenSpec.upto Rows.planLikesSpec) (k := Rows.uptoSmall) rfl own started (by kernel_rfl) Try.func7
    (OpenSpec.witness (enc := enc) (C := Try.checked) (s := Rows.OpenSpec.upto Rows.planLikesSpec) (k := Rows.uptoSmall) rfl false ⟨#[], #[.string .empty, .string .empty], []⟩ 8 (by kernel_rfl) (by kernel_rfl) (by kernel_rfl)
      (x := ([.lit (.string []), .lit (.string [])], [], [])) (by kernel_rfl) rfl (by kernel_rfl)) ?_
  intro W base args ds gs before hval hW _ hk _
  exact contract H enc W base args ds gs before hval hW hk

theorem planLikes_holds : Rows.PlanLikesUptoSaid :=
  OpenClaim.holds_of_cond 7 Try.f7 rfl rfl rfl rfl rfl rfl rfl ⟨rfl, rfl, rfl, rfl, rfl⟩ rfl rfl rfl rfl rfl (by kernel_rfl) Try.func7 (by kernel_rfl)
    (of_decide_eq_true (by kernel_rfl)) (by unfold Func.isWrapper; first | (rw [if_pos (by decide +kernel)]; kernel_rfl) | (rw [if_neg (by decide +kernel)]; exact ⟨rfl, rfl⟩))
    (fun os started H enc _ F => lifted os started H enc F)
#print axioms planLikes_holds
end Go.Proofs.Ytggbhdcgfnjogaa.planLikes
