import Derived.Test.YtfmgbgkcmmpcfaaGreatDoorCPTkx0
import Derived.Test.YtfmgbgkcmmpcfaaGreatDoorCPTkx1
import Derived.Test.YtfmgbgkcmmpcfaaGreatDoorCPTkx2
import Derived.Test.YtfmgbgkcmmpcfaaGreatDoorCPTkx3
import Derived.Test.YtfmgbgkcmmpcfaaGreatDoorCPTkx5
import Derived.Test.YtfmgbgkcmmpcfaaGreatDoorCPTkx6
import Derived.Test.YtfmgbgkcmmpcfaaGreatDoorCPTkx9
import Derived.Test.YtfmgbgkcmmpcfaaGreatDoorCPTkx10
import Derived.Test.YtfmgbgkcmmpcfaaGreatDoorCPTkx11
import Derived.Test.YtfmgbgkcmmpcfaaGreatDoorCPTkx12
import Derived.Test.YtfmgbgkcmmpcfaaGreatDoorCPTkx13
import Derived.Test.YtfmgbgkcmmpcfaaGreatDoorCPTkx14
import Derived.Test.YtfmgbgkcmmpcfaaGreatDoorCPTkx17
namespace Go.Proofs.YtfmgbgkcmmpcfaaGreatDoor.PTk
open Go.RowKit Go.Proofs.YtfmgbgkcmmpcfaaGreatDoorW.PrintWords Go.Proofs.YtfmgbgkcmmpcfaaGreatDoorW.PrintLast Go.Proofs.YtfmgbgkcmmpcfaaGreatDoorW.PrintMore
attribute [local go_sem] zp zC
set_option linter.unusedVariables false
set_option linter.unusedSimpArgs false
def DeepOK (t : Tr) : Prop := ∀ (want : Int) (A : Option Addr) (c : Nat) (w : World), Kd.C k130 w A t.f1.length t.f1 → t.f1.length ≤ c →
 Calls Tryz.prog 71 #[.agg #[.int .i64 t.f0.f0, .int .i64 t.f0.f1, .int .i64 t.f0.f2, .string t.f0.f3, .slice A t.f1.length c], .int .i64 want] w fun e w' => e = .returned (.int .i64 ((opdD want t (dep t) : Nat) : Int)) ∧ Below w.heap.size w w'
theorem kid_cells {w : World} {A : Option Addr} {n : Nat} {ks : List Tr} (h : Kd.C k130 w A n ks) (i : Nat) (hi : i < ks.length) : ∃ ad A4 c4, A = some ad ∧ w.cell? (ad.add (i * 5)) = some (.int .i64 ks[i].f0.f0) ∧ w.cell? ⟨(ad.add (i * 5)).block, (ad.add (i * 5)).off + 1, none⟩ = some (.int .i64 ks[i].f0.f1) ∧ w.cell? ⟨(ad.add (i * 5)).block, (ad.add (i * 5)).off + 2, none⟩ = some (.int .i64 ks[i].f0.f2) ∧ w.cell? ⟨(ad.add (i * 5)).block, (ad.add (i * 5)).off + 3, none⟩ = some (.string ks[i].f0.f3) ∧ w.cell? ⟨(ad.add (i * 5)).block, (ad.add (i * 5)).off + 4, none⟩ = some (.slice A4 ks[i].f1.length c4) ∧ ks[i].f1.length ≤ c4 ∧ Kd.C k130 w A4 ks[i].f1.length ks[i].f1 := by
 have hn := h.1;have h2 := vh h (i : Int) (by omega) (by omega)
 have hr : qA ks (i : Int) = ks[i] := by
  have : qA ks (i : Int) = kid ks i := rfl;rw [this, vd ks i hi]
 rw [hr] at h2
 exact h2
set_option maxHeartbeats 4000000 in
set_option maxRecDepth 100000 in
theorem deep_up (op f1 f2 : Int) (f3 : ByteArray) (ks : List Tr) (h1 : 1 ≤ op) (h2 : op ≤ 29) (h8 : op = 8 → ks ≠ []) (want : Int) (hw : levI ⟨⟨op, f1, f2, f3⟩, ks⟩ < want) (hd : dep ⟨⟨op, f1, f2, f3⟩, ks⟩ ≤ 1000000000) (A : Option Addr) (c : Nat) (w : World) (hC : Kd.C k130 w A ks.length ks) (hc : ks.length ≤ c)
 (H0 : ∀ W, Kd.C k130 W A ks.length ks → Calls Tryz.prog 71 #[.agg #[.int .i64 op, .int .i64 f1, .int .i64 f2, .string f3, .slice A ks.length c], .int .i64 0] W fun e w' => e = .returned (.int .i64 ((dep ⟨⟨op, f1, f2, f3⟩, ks⟩ : Nat) : Int)) ∧ Below W.heap.size W w') :
 Calls Tryz.prog 71 #[.agg #[.int .i64 op, .int .i64 f1, .int .i64 f2, .string f3, .slice A ks.length c], .int .i64 want] w fun e w' => e = .returned (.int .i64 ((1 + dep ⟨⟨op, f1, f2, f3⟩, ks⟩ : Nat) : Int)) ∧ Below w.heap.size w w' := by
 have HL := Aside0.mk (level_ref ⟨op, f1, f2, f3⟩ ks h1 h2 h8);have HC := Aside0.mk hC;have aa := Aside0.mk (q8 (Below.refl w.heap.size w) (TO ⟨op, f1, f2, f3⟩ ks A c));have K5 := qL w (TO ⟨op, f1, f2, f3⟩ ks A c);have af := Aside0.mk H0;clear H0 hC;generalize levI ⟨⟨op, f1, f2, f3⟩, ks⟩ = lv at *;generalize dep ⟨⟨op, f1, f2, f3⟩, ks⟩ = dp at *;have e1 : decide (lv < want) = true := decide_eq_true hw
 have e2 : IntKind.i64.wrap (1 + (dp : Int)) = ((1 + dp : Nat) : Int) := by rw [IntWalk.i64_in _ (by omega)]; omega
 go_enter Tryz.func71, Tryz.ntmps71
 go_wp2_with (first
  | (go_at_call 110; go_must (refine (qj.calls 4 op f1 f2 f3 A c ks lv _ (Kd.C_below HC.out aa.out) hc HL.out).mono ?_; rintro e w1 ⟨rfl, hb⟩; have ab := Aside0.mk (qy aa.out aa.out.size hb); have k5 := (hb.block w.heap.size (by simp)).trans K5; have ak : w1.cell? ⟨w.heap.size, 0, none⟩ = some (.int .i64 op) := (qa k5 0).trans rfl; have al : w1.cell? ⟨w.heap.size, 1, none⟩ = some (.int .i64 f1) := (qa k5 1).trans rfl; have am : w1.cell? ⟨w.heap.size, 2, none⟩ = some (.int .i64 f2) := (qa k5 2).trans rfl; have an : w1.cell? ⟨w.heap.size, 3, none⟩ = some (.string f3) := (qa k5 3).trans rfl; have ao : w1.cell? ⟨w.heap.size, 4, none⟩ = some (.slice A ks.length c) := (qa k5 4).trans rfl; clear hb))
  | (go_at_call 71; go_must (refine (af.out _ (Kd.C_below HC.out ab.out)).mono ?_; rintro e w2 ⟨rfl, hb⟩; have ag := Aside0.mk (qy ab.out ab.out.size hb); clear hb)))
 go_ret
 exact ⟨rfl, ag.out⟩
set_option maxHeartbeats 4000000 in
set_option maxRecDepth 100000 in
theorem deep_sug (op f1 f2 : Int) (f3 : ByteArray) (ks : List Tr) (h1 : 1 ≤ op) (h2 : op ≤ 29) (h8 : op = 8) (hm : zI (kid ks 0).f0.f0 = true) (hl : 0 < ks.length) (want : Int) (hw : ¬ levI ⟨⟨op, f1, f2, f3⟩, ks⟩ < want) (A : Option Addr) (c : Nat) (w : World) (hC : Kd.C k130 w A ks.length ks) (hc : ks.length ≤ c)
 (H0 : DeepOK (ks[0]'hl)) :
 Calls Tryz.prog 71 #[.agg #[.int .i64 op, .int .i64 f1, .int .i64 f2, .string f3, .slice A ks.length c], .int .i64 want] w fun e w' => e = .returned (.int .i64 ((opdD 0 (ks[0]'hl) (dep (ks[0]'hl)) : Nat) : Int)) ∧ Below w.heap.size w w' := by
 have hne : ks ≠ [] := List.length_pos_iff.1 hl;have HL := Aside0.mk (level_ref ⟨op, f1, f2, f3⟩ ks h1 h2 (fun _ => hne));have hs := vK op f1 f2 f3 ks (fun _ => hne);rw [decide_eq_true h8, hm, Bool.and_self] at hs;have HS := Aside0.mk hs;have HC := Aside0.mk hC;have ae := Aside0.mk (q8 (Below.refl w.heap.size w) (TO ⟨op, f1, f2, f3⟩ ks A c));have K5 := qL w (TO ⟨op, f1, f2, f3⟩ ks A c);have ao := Aside0.mk H0;obtain ⟨ad, A4, c4, rfl, g0, g1, g2, g3, g4, gc, gC⟩ := kid_cells hC 0 hl;rw [Nat.zero_mul, zy] at g0 g1 g2 g3 g4;have HG := Aside0.mk (And.intro g0 (And.intro g1 (And.intro g2 (And.intro g3 g4))));have HGC := Aside0.mk gC;clear H0 hC hs g0 g1 g2 g3 g4 gC
 have d9 : (0 : Int) < (ks.length : Int) := by omega
 generalize levI ⟨⟨op, f1, f2, f3⟩, ks⟩ = lv at *;generalize ks[0]'hl = t at *;clear h8 hm hne h1 h2;have e1 : decide (lv < want) = false := decide_eq_false hw
 go_enter Tryz.func71, Tryz.ntmps71
 go_wp2_with (first
  | (go_at_call 110; go_must (refine (qj.calls 4 op f1 f2 f3 (some ad) c ks lv _ (Kd.C_below HC.out ae.out) hc HL.out).mono ?_; rintro e w1 ⟨rfl, hb⟩; have ac := Aside0.mk (qy ae.out ae.out.size hb); have k5 := (hb.block w.heap.size (by simp)).trans K5; have ap : w1.cell? ⟨w.heap.size, 0, none⟩ = some (.int .i64 op) := (qa k5 0).trans rfl; have au : w1.cell? ⟨w.heap.size, 1, none⟩ = some (.int .i64 f1) := (qa k5 1).trans rfl; have av : w1.cell? ⟨w.heap.size, 2, none⟩ = some (.int .i64 f2) := (qa k5 2).trans rfl; have aw : w1.cell? ⟨w.heap.size, 3, none⟩ = some (.string f3) := (qa k5 3).trans rfl; have ax : w1.cell? ⟨w.heap.size, 4, none⟩ = some (.slice (some ad) ks.length c) := (qa k5 4).trans rfl; clear hb))
  | (go_at_call 111; go_must (refine (zc.calls op f1 f2 f3 (some ad) c ks true _ (Kd.C_below HC.out ac.out) hc HS.out).mono ?_; rintro e w2 ⟨rfl, hb⟩; have aa := Aside0.mk (qy ac.out ac.out.size hb); have k6 := (hb.block w.heap.size (by have := ac.out.size; have h9 := zv k5; omega)).trans k5; have a1 : w2.cell? ⟨w.heap.size, 0, none⟩ = some (.int .i64 op) := (qa k6 0).trans rfl; have a2 : w2.cell? ⟨w.heap.size, 1, none⟩ = some (.int .i64 f1) := (qa k6 1).trans rfl; have a3 : w2.cell? ⟨w.heap.size, 2, none⟩ = some (.int .i64 f2) := (qa k6 2).trans rfl; have a4 : w2.cell? ⟨w.heap.size, 3, none⟩ = some (.string f3) := (qa k6 3).trans rfl; have a5 : w2.cell? ⟨w.heap.size, 4, none⟩ = some (.slice (some ad) ks.length c) := (qa k6 4).trans rfl; have q0 := qB aa.out HG.out.1; have q1 := qB aa.out HG.out.2.1; have q2 := qB aa.out HG.out.2.2.1; have q3 := qB aa.out HG.out.2.2.2.1; have q4 := qB aa.out HG.out.2.2.2.2; clear hb ap au av aw ax))
  | (go_at_call 71; go_must (refine (ao.out 0 A4 c4 _ (Kd.C_below HGC.out aa.out) gc).mono ?_; rintro e w3 ⟨rfl, hb⟩; have ay := Aside0.mk (qy aa.out aa.out.size hb); clear hb)))
 go_ret
 exact ⟨rfl, ay.out⟩
theorem nest_cases (op : Int) (i : Nat) : ((op == 8) = true ∧ xi op i = 1) ∨ ((op == 8) = false ∧ (op == 7) = true ∧ xi op i = 1) ∨ ((op == 8) = false ∧ (op == 7) = false ∧ (op == 28) = true ∧ xi op i = 1) ∨ ((op == 8) = false ∧ (op == 7) = false ∧ (op == 28) = false ∧ (op == 29) = true ∧ xi op i = 1)
 ∨ ((op == 8) = false ∧ (op == 7) = false ∧ (op == 28) = false ∧ (op == 29) = false ∧ (op == 27) = true ∧ 0 < i ∧ xi op i = 1) ∨ ((op == 8) = false ∧ (op == 7) = false ∧ (op == 28) = false ∧ (op == 29) = false ∧ (op == 27) = true ∧ ¬ 0 < i ∧ xi op i = 0)
 ∨ ((op == 8) = false ∧ (op == 7) = false ∧ (op == 28) = false ∧ (op == 29) = false ∧ (op == 27) = false ∧ xi op i = 0) := by
 unfold xi;simp only [beq_iff_eq, beq_eq_false_iff_ne, ne_eq]
 by_cases a : op = 8
 · exact .inl ⟨a, if_pos (.inl a)⟩
 by_cases b : op = 7
 · exact .inr (.inl ⟨a, b, if_pos (.inr (.inl b))⟩)
 by_cases c : op = 28
 · exact .inr (.inr (.inl ⟨a, b, c, if_pos (.inr (.inr (.inl c)))⟩))
 by_cases d : op = 29
 · exact .inr (.inr (.inr (.inl ⟨a, b, c, d, if_pos (.inr (.inr (.inr (.inl d))))⟩)))
 by_cases e : op = 27
 · by_cases f : 0 < i
   · exact .inr (.inr (.inr (.inr (.inl ⟨a, b, c, d, e, f, if_pos (.inr (.inr (.inr (.inr ⟨e, f⟩))))⟩))))
   · exact .inr (.inr (.inr (.inr (.inr (.inl ⟨a, b, c, d, e, f, if_neg (by omega)⟩)))))
 · exact .inr (.inr (.inr (.inr (.inr (.inr ⟨a, b, c, d, e, if_neg (by omega)⟩)))))
set_option maxHeartbeats 4000000 in
set_option maxRecDepth 100000 in
theorem deep_loop (op f1 f2 : Int) (f3 : ByteArray) (ks : List Tr) (h1 : 1 ≤ op) (h2 : op ≤ 29) (h8 : op = 8 → ks ≠ []) (hm : ¬ (op = 8 ∧ zI (kid ks 0).f0.f0 = true)) (hn : ks.length ≤ 100) (hd : ∀ i (hi : i < ks.length), dep (ks[i]'hi) ≤ 2000000) (want : Int) (hw : ¬ levI ⟨⟨op, f1, f2, f3⟩, ks⟩ < want) (A : Option Addr) (c : Nat) (w : World) (hC : Kd.C k130 w A ks.length ks) (hc : ks.length ≤ c)
 (H0 : ∀ i (hi : i < ks.length), DeepOK (ks[i]'hi)) :
 Calls Tryz.prog 71 #[.agg #[.int .i64 op, .int .i64 f1, .int .i64 f2, .string f3, .slice A ks.length c], .int .i64 want] w fun e w' => e = .returned (.int .i64 ((maxD ⟨op, f1, f2, f3⟩ 0 (ks.zip (deps ks)) : Nat) : Int)) ∧ Below w.heap.size w w' := by
 have HL := Aside0.mk (level_ref ⟨op, f1, f2, f3⟩ ks h1 h2 h8);have hs := vK op f1 f2 f3 ks h8
 have hsf : (decide (op = 8) && zI (kid ks 0).f0.f0) = false := by
  cases hb : (decide (op = 8) && zI (kid ks 0).f0.f0) with
  | false => rfl
  | true =>
   simp only [Bool.and_eq_true, decide_eq_true_eq] at hb;exact absurd hb hm
 rw [hsf] at hs;have HS := Aside0.mk hs;have HC := Aside0.mk hC;have ae := Aside0.mk (q8 (Below.refl w.heap.size w) (TO ⟨op, f1, f2, f3⟩ ks A c));have K5 := qL w (TO ⟨op, f1, f2, f3⟩ ks A c);have aw := Aside0.mk H0;have HO := Aside0.mk (And.intro h1 h2);have HD := Aside0.mk hd;have HN := Aside0.mk hn;generalize levI ⟨⟨op, f1, f2, f3⟩, ks⟩ = lv at *;have e1 : decide (lv < want) = false := decide_eq_false hw;clear H0 hC hs hsf h8 hm h1 h2 hd hn hw
 go_enter Tryz.func71, Tryz.ntmps71
 go_wp2_with (first
  | (go_at_call 110; go_must (refine (qj.calls 4 op f1 f2 f3 A c ks lv _ (Kd.C_below HC.out ae.out) hc HL.out).mono ?_; rintro e w1 ⟨rfl, hb⟩; have aa := Aside0.mk (qy ae.out ae.out.size hb); have k5 := (hb.block w.heap.size (by simp)).trans K5; have ah : w1.cell? ⟨w.heap.size, 0, none⟩ = some (.int .i64 op) := (qa k5 0).trans rfl; have ax : w1.cell? ⟨w.heap.size, 1, none⟩ = some (.int .i64 f1) := (qa k5 1).trans rfl; have ay : w1.cell? ⟨w.heap.size, 2, none⟩ = some (.int .i64 f2) := (qa k5 2).trans rfl; have az : w1.cell? ⟨w.heap.size, 3, none⟩ = some (.string f3) := (qa k5 3).trans rfl; have ai : w1.cell? ⟨w.heap.size, 4, none⟩ = some (.slice A ks.length c) := (qa k5 4).trans rfl; clear hb))
  | (go_at_call 111; go_must (refine (zc.calls op f1 f2 f3 A c ks false _ (Kd.C_below HC.out aa.out) hc HS.out).mono ?_; rintro e w2 ⟨rfl, hb⟩; have al := Aside0.mk (qy aa.out aa.out.size hb); have k6 := (hb.block w.heap.size (by have := aa.out.size; have h9 := zv k5; omega)).trans k5; have a0 : w2.cell? ⟨w.heap.size, 0, none⟩ = some (.int .i64 op) := (qa k6 0).trans rfl; have a1 : w2.cell? ⟨w.heap.size, 1, none⟩ = some (.int .i64 f1) := (qa k6 1).trans rfl; have a2 : w2.cell? ⟨w.heap.size, 2, none⟩ = some (.int .i64 f2) := (qa k6 2).trans rfl; have a3 : w2.cell? ⟨w.heap.size, 3, none⟩ = some (.string f3) := (qa k6 3).trans rfl; have a4 : w2.cell? ⟨w.heap.size, 4, none⟩ = some (.slice A ks.length c) := (qa k6 4).trans rfl; clear hb ah ax ay az ai)))
 go_loopw [5, 6] (fun v5 v6 wr => ∃ (i acc : Nat), i ≤ ks.length ∧ v6 = .int .i64 (i : Int) ∧ v5 = .int .i64 (acc : Int) ∧ Aside0 (max acc (maxD ⟨op, f1, f2, f3⟩ i ((ks.zip (deps ks)).drop i)) = maxD ⟨op, f1, f2, f3⟩ 0 (ks.zip (deps ks))) ∧ Aside0 (acc ≤ 1000000000) ∧ Aside0 (Below w.heap.size w wr) ∧ Aside0 (wr.heap[w.heap.size]? = some (TO ⟨op, f1, f2, f3⟩ ks A c))) (fun _ v6 _ => ks.length - (intOf v6).toNat)
 case atStart => exact ⟨0, 0, Nat.zero_le _, rfl, rfl, ⟨by rw [List.drop_zero, Nat.zero_max]⟩, ⟨by omega⟩, ⟨al.out⟩, ⟨k6⟩⟩
 case round =>
  clear ae aa al K5 k5 k6 a0 a1 a2 a3 a4;obtain ⟨i, acc, hi, rfl, rfl, HM, hacc, HB, HK⟩ := hrel;have K := HK.out;have ah : wr.cell? ⟨w.heap.size, 0, none⟩ = some (.int .i64 op) := (qa K 0).trans rfl;have ai : wr.cell? ⟨w.heap.size, 4, none⟩ = some (.slice A ks.length c) := (qa K 4).trans rfl;clear K
  by_cases hlt : i < ks.length
  · have d1 : decide ((i : Int) < (ks.length : Int)) = true := decide_eq_true (by omega)
    have d9 : (i : Int) < (ks.length : Int) := by omega
    have HT := Aside0.mk (aw.out i hlt);have HDK := Aside0.mk (HD.out i hlt)
    have hz : i < (ks.zip (deps ks)).length := by rw [List.length_zip, deps_len]; omega
    have hat : (ks.zip (deps ks))[i]'hz = (ks[i]'hlt, dep (ks[i]'hlt)) := by
     have a6 : i < (deps ks).length := by rw [deps_len]; exact hlt
     have := deps_at ks i hlt;simp only [List.getD_eq_getElem?_getD, List.getElem?_eq_getElem a6, Option.getD_some] at this;simp only [List.getElem_zip, this]
    have hM := HM.out;rw [List.drop_eq_getElem_cons hz, hat] at hM;simp only [maxD] at hM;have HMM := Aside0.mk hM;have HW := Aside0.mk (wants_ref op i HO.out.1 HO.out.2 (by have := HN.out; omega));obtain ⟨ad, A4, c4, rfl, g0, g1, g2, g3, g4, gc, gC⟩ := kid_cells (Kd.C_below HC.out HB.out) i hlt;have HGC := Aside0.mk gC;have HNC := Aside0.mk (nest_cases op i);have HII := Aside0.mk hlt;clear hz hat hM HM gC;generalize ks[i]'hlt = t at *;have HDD := Aside0.mk (show opdD (zu op i) t (dep t) ≤ 3000000 by have := HDK.out; unfold opdD; split <;> omega)
    go_upto_region 9 with (fail)
    go_region_law (first
     | ((try go_simp); go_at_call 112; refine (qk.calls 4 op (i : Int) _ _ HW.out).mono ?_; rintro e w3 ⟨rfl, ⟨nd, rfl⟩⟩)
     | ((try go_simp); go_at_call 71; refine (HT.out (zu op i) A4 c4 _ (by repeat (first | exact HGC.out | refine Kd.C_drewN ?_ _ | refine Kd.C_drew ?_)) gc).mono ?_; rintro e w4 ⟨rfl, hb⟩; have aa := Aside0.mk (qy (by repeat (first | exact HB.out | apply q9 | apply qb) : Below w.heap.size w _) (by have := HB.out.size; exact this) hb); have k6 := Aside0.mk ((hb.block w.heap.size (zv HK.out)).trans HK.out); have bh : w4.cell? ⟨w.heap.size, 0, none⟩ = some (.int .i64 op) := (qa k6.out 0).trans rfl; clear hb))
    all_goals (
     clear g0 g1 g2 g3 g4 gc ah ai d1 d9
     rcases HNC.out with ⟨b8, hn⟩ | ⟨b8, b7, hn⟩ | ⟨b8, b7, af, hn⟩ | ⟨b8, b7, af, ak, hn⟩ | ⟨b8, b7, af, ak, am, hp, hn⟩ | ⟨b8, b7, af, ak, am, hp, hn⟩ | ⟨b8, b7, af, ak, am, hn⟩)
    all_goals (have HQ := Aside0.mk hn; clear hn)
    all_goals go_wp2
    all_goals (
     have ei : wrap64 ((i : Int) + 1) = ((i + 1 : Nat) : Int) := by have := HN.out; rw [zW (by omega) (by omega)]; omega
     have eD : wrap64 ((opdD (zu op i) t (dep t) : Int) + 1) = ((opdD (zu op i) t (dep t) + 1 : Nat) : Int) := by have := HDD.out; rw [zW (by omega) (by omega)]; omega
     have hM := HMM.out;have hD := HDD.out;have hA := hacc.out;have hQ := HQ.out;refine ⟨⟨i + 1, max acc (opdD (zu op i) t (dep t) + xi op i), by omega, by first | rw [ei] | rfl, ?_, ⟨?_⟩, ⟨by rw [hQ]; omega⟩, aa, k6⟩, ?_⟩
     · rw [hQ]
       try rw [eD]
       congr 1
       split <;> omega
     · rw [← hM, Nat.max_assoc]
     · (try rw [ei]); simp [intOf]; omega)
  · have d1 : decide ((i : Int) < (ks.length : Int)) = false := decide_eq_false (by omega)
    have hM := HM.out;rw [List.drop_eq_nil_of_le (by rw [List.length_zip, deps_len]; omega)] at hM;simp only [maxD, Nat.max_zero] at hM;have HE := Aside0.mk hM;clear hM HM;go_wp2
    go_ret
    refine ⟨?_, HB.out⟩;show Ending.returned (.int .i64 (acc : Int)) = _;rw [HE.out]
theorem deep_ok : ∀ (n : Nat) (t : Tr), zS t ≤ n → zS t ≤ 1000000 → gdT t = true → DeepOK t := by
 intro n
 induction n with
 | zero => intro t h; have := nodes_pos t; omega
 | succ n ih =>
  intro t hn hb hg;have hD := dep_le t;obtain ⟨⟨op, f1, f2, f3⟩, ks⟩ := t;obtain ⟨h1, h2⟩ := (gdT_iff _ _).1 hg;obtain ⟨_, _, ht⟩ := (vD _ _).1 h1;have aa : 1 ≤ op := vJ ht;have ab : op ≤ 29 := takes_le ht;have hnum := xQ ht
  dsimp only at hnum
  have hkn : ∀ i (hi : i < ks.length), zS (ks[i]'hi) + 1 ≤ zS ⟨⟨op, f1, f2, f3⟩, ks⟩ := fun i hi => by
   have := nodes_at ks i hi;simp only [zS]
   omega
  have h8 : op = 8 → ks ≠ [] := fun h8 h0 => by
   have := hnum.2.1 (.inr (.inl h8));rw [h0] at this
   simp at this
  have hkid : ∀ i (hi : i < ks.length), DeepOK (ks[i]'hi) := fun i hi =>
   ih _ (by have := hkn i hi; omega) (by have := hkn i hi; omega) (gdTs_mem h2 _ (List.getElem_mem hi))
  have hkd : ∀ i (hi : i < ks.length), dep (ks[i]'hi) ≤ 2000000 := fun i hi => by
   have := dep_le (ks[i]'hi);have := hkn i hi
   omega
  have hflat : ∀ (want : Int) (A : Option Addr) (c : Nat) (w : World), ¬ levI ⟨⟨op, f1, f2, f3⟩, ks⟩ < want → Kd.C k130 w A ks.length ks → ks.length ≤ c →
   Calls Tryz.prog 71 #[.agg #[.int .i64 op, .int .i64 f1, .int .i64 f2, .string f3, .slice A ks.length c], .int .i64 want] w fun e w' => e = .returned (.int .i64 ((dep ⟨⟨op, f1, f2, f3⟩, ks⟩ : Nat) : Int)) ∧ Below w.heap.size w w' := by
   intro want A c w hw hC hc
   by_cases hs : op = 8 ∧ zI (kid ks 0).f0.f0 = true
   · have hlen : 0 < ks.length := List.length_pos_iff.2 (h8 hs.1)
     have hz : opdD 0 (ks[0]'hlen) (dep (ks[0]'hlen)) = dep ⟨⟨op, f1, f2, f3⟩, ks⟩ := by
      have hl := lev_one (ks[0]'hlen)
      have e : opdD 0 (ks[0]'hlen) (dep (ks[0]'hlen)) = dep (ks[0]'hlen) := by unfold opdD; rw [if_neg (by omega)]
      rw [e];simp only [dep];rw [if_pos hs, deps_at ks 0 hlen]
     have := deep_sug op f1 f2 f3 ks aa ab hs.1 hs.2 hlen want hw A c w hC hc (hkid 0 hlen);rw [hz] at this
     exact this
   · have hz : maxD ⟨op, f1, f2, f3⟩ 0 (ks.zip (deps ks)) = dep ⟨⟨op, f1, f2, f3⟩, ks⟩ := by
      simp only [dep];rw [if_neg hs]
     have := deep_loop op f1 f2 f3 ks aa ab h8 hs (by omega) hkd want hw A c w hC hc hkid;rw [hz] at this
     exact this
  intro want A c w hC hc
  by_cases hw : levI ⟨⟨op, f1, f2, f3⟩, ks⟩ < want
  · have hv : opdD want ⟨⟨op, f1, f2, f3⟩, ks⟩ (dep ⟨⟨op, f1, f2, f3⟩, ks⟩) = 1 + dep ⟨⟨op, f1, f2, f3⟩, ks⟩ := by unfold opdD; rw [if_pos hw]
    rw [hv]
    exact deep_up op f1 f2 f3 ks aa ab h8 want hw (by omega) A c w hC hc (fun W hW => hflat 0 A c W (by have := lev_one ⟨⟨op, f1, f2, f3⟩, ks⟩; omega) hW hc)
  · have hv : opdD want ⟨⟨op, f1, f2, f3⟩, ks⟩ (dep ⟨⟨op, f1, f2, f3⟩, ks⟩) = dep ⟨⟨op, f1, f2, f3⟩, ks⟩ := by unfold opdD; rw [if_neg hw]
    rw [hv]
    exact hflat want A c w hw hC hc
section Post
variable (ok : Nd → Bool) (ar : Nd → Nat)
mutual
def xw : Tr → List Nd
 | ⟨x, ks⟩ => zt ks ++ [x]
def zt : List Tr → List Nd
 | [] => []
 | t :: ts => xw t ++ zt ts
end
mutual
def p_good : Tr → Prop
 | ⟨x, ks⟩ => ok x = true ∧ ks.length = ar x ∧ zM ks
def zM : List Tr → Prop
 | [] => True
 | t :: ts => p_good t ∧ zM ts
end
theorem xc : ∀ (a b : List Tr), zt (a ++ b) = zt a ++ zt b
 | [], b => by simp [zt]
 | t :: ts, b => by simp [zt, xc ts b]
theorem xG : ∀ (a b : List Tr), zM ok ar (a ++ b) ↔ zM ok ar a ∧ zM ok ar b
 | [], b => by simp [zM]
 | t :: ts, b => by simp [zM, xG ts b, and_assoc]
theorem p_goods_take_drop (n : Nat) (a : List Tr) (h : zM ok ar a) : zM ok ar (a.take n) ∧ zM ok ar (a.drop n) := by
 rw [← xG, List.take_append_drop]
 exact h
theorem p_flat_pos (t : Tr) : 0 < (xw t).length := by
 cases t with
 | mk x ks => simp [xw]
def p_step (st : List Tr) (x : Nd) : Option (List Tr) :=
 if ok x = true ∧ ar x ≤ st.length then some (st.take (st.length - ar x) ++ [⟨x, st.drop (st.length - ar x)⟩]) else none
def xJ (st : List Tr) : List Nd → Option (List Tr)
 | [] => some st
 | x :: e => (p_step ok ar st x).bind fun s => xJ s e
theorem p_run_append (a b : List Nd) : ∀ st : List Tr, xJ ok ar st (a ++ b) = (xJ ok ar st a).bind fun s => xJ ok ar s b := by
 induction a with
 | nil => intro st; simp [xJ]
 | cons x a ih =>
  intro st;simp only [List.cons_append, xJ]
  cases p_step ok ar st x with
  | none => rfl
  | some s => simp [ih]
mutual
theorem p_run_flat : ∀ (t : Tr) (st : List Tr), p_good ok ar t → xJ ok ar st (xw t) = some (st ++ [t])
 | ⟨x, ks⟩, st, h => by
  obtain ⟨h1, h2, h3⟩ := h;rw [xw, p_run_append, p_run_flats ks st h3];simp only [Option.bind_some, xJ, p_step];rw [if_pos ⟨h1, by rw [List.length_append]; omega⟩]
  have e : (st ++ ks).length - ar x = st.length := by rw [List.length_append]; omega
  rw [e]
  simp
theorem p_run_flats : ∀ (ts : List Tr) (st : List Tr), zM ok ar ts → xJ ok ar st (zt ts) = some (st ++ ts)
 | [], st, _ => by simp [zt, xJ]
 | t :: ts, st, h => by
  rw [zt, p_run_append, p_run_flat t st h.1];simp only [Option.bind_some];rw [p_run_flats ts _ h.2]
  simp
end
theorem p_run_back : ∀ (e : List Nd) (st st' : List Tr), zM ok ar st → xJ ok ar st e = some st' → zM ok ar st' ∧ zt st ++ e = zt st' := by
 intro e
 induction e with
 | nil =>
  intro st st' hg h;simp only [xJ, Option.some.injEq] at h;subst h
  exact ⟨hg, by simp⟩
 | cons x e ih =>
  intro st st' hg h;simp only [xJ, Option.bind_eq_some_iff] at h;obtain ⟨s, hs, h⟩ := h;unfold p_step at hs
  split at hs
  · rename_i hc
    simp only [Option.some.injEq] at hs;obtain ⟨g1, g2⟩ := p_goods_take_drop ok ar (st.length - ar x) st hg
    have hgs : zM ok ar s := by
     rw [← hs, xG];refine ⟨g1, ?_, trivial⟩
     exact ⟨hc.1, by rw [List.length_drop]; omega, g2⟩
    obtain ⟨r1, r2⟩ := ih s st' hgs h;refine ⟨r1, ?_⟩;rw [← r2, ← hs, xc];simp only [zt, xw, List.append_nil]
    have e1 : zt (st.take (st.length - ar x)) ++ zt (st.drop (st.length - ar x)) = zt st := by rw [← xc, List.take_append_drop]
    rw [← e1]
    simp
  · cases hs
theorem p_run_one (e : List Nd) (t : Tr) : xJ ok ar [] e = some [t] ↔ p_good ok ar t ∧ e = xw t := by
 constructor
 · intro h
   obtain ⟨h1, h2⟩ := p_run_back ok ar e [] [t] trivial h
   exact ⟨h1.1, by simpa [zt] using h2⟩
 · rintro ⟨h1, rfl⟩
   simpa using p_run_flat ok ar t [] h1
section
def zR (b : List Nd → Option (Tr × List Nd)) : Nat → List Nd → List Tr → Option (List Tr × List Nd)
 | 0, r, acc => some (acc, r)
 | n + 1, r, acc => (b r).bind fun p => zR b n p.2 (p.1 :: acc)
def zV : Nat → List Nd → Option (Tr × List Nd)
 | 0, _ => none
 | _ + 1, [] => none
 | k + 1, x :: r => if ok x = true then (zR (zV k) (ar x) r []).map fun p => (.mk x p.1, p.2) else none
theorem p_kidsB_back {b : List Nd → Option (Tr × List Nd)} (hb : ∀ r t r', b r = some (t, r') → p_good ok ar t ∧ r = (xw t).reverse ++ r') : ∀ (n : Nat) (r : List Nd) (acc ks : List Tr) (r' : List Nd), zM ok ar acc → zR b n r acc = some (ks, r') →
 zM ok ar ks ∧ ks.length = acc.length + n ∧ ∃ new, ks = new ++ acc ∧ r = (zt new).reverse ++ r' := by
 intro n
 induction n with
 | zero =>
  intro r acc ks r' hg h;simp only [zR, Option.some.injEq, Prod.mk.injEq] at h;obtain ⟨rfl, rfl⟩ := h
  exact ⟨hg, rfl, [], rfl, by simp [zt]⟩
 | succ n ih =>
  intro r acc ks r' hg h;simp only [zR, Option.bind_eq_some_iff] at h;obtain ⟨⟨t, r1⟩, h1, h2⟩ := h;obtain ⟨g1, e1⟩ := hb r t r1 h1;obtain ⟨g2, l2, new, e2, e3⟩ := ih r1 (t :: acc) ks r' ⟨g1, hg⟩ h2;refine ⟨g2, by rw [l2, List.length_cons]; omega, new ++ [t], by rw [e2]; simp, ?_⟩;rw [e1, e3, xc]
  simp [zt]
theorem p_back_back : ∀ (k : Nat) (r : List Nd) (t : Tr) (r' : List Nd), zV ok ar k r = some (t, r') → p_good ok ar t ∧ r = (xw t).reverse ++ r' := by
 intro k
 induction k with
 | zero => intro r t r' h; simp [zV] at h
 | succ k ih =>
  intro r t r' h
  cases r with
  | nil => simp [zV] at h
  | cons x r =>
   simp only [zV] at h
   split at h
   · rename_i hx
     obtain ⟨⟨ks, r1⟩, h1, h2⟩ := Option.map_eq_some_iff.1 h;obtain ⟨g1, l1, new, e1, e2⟩ := p_kidsB_back ok ar ih (ar x) r [] ks r1 trivial h1;simp only [Prod.mk.injEq] at h2;obtain ⟨rfl, rfl⟩ := h2;refine ⟨⟨hx, by simpa using l1, g1⟩, ?_⟩;rw [List.append_nil] at e1;rw [e2, ← e1]
     simp [xw]
   · cases h
theorem p_kidsB_flats {b : List Nd → Option (Tr × List Nd)} (m : Nat) (hb : ∀ t r, p_good ok ar t → (xw t).length ≤ m → b ((xw t).reverse ++ r) = some (t, r)) : ∀ (new acc : List Tr) (r : List Nd), zM ok ar new → (zt new).length ≤ m →
 zR b new.length ((zt new).reverse ++ r) acc = some (new ++ acc, r) := by
 intro new
 suffices H : ∀ (rev acc : List Tr) (r : List Nd), zM ok ar rev.reverse → (zt rev.reverse).length ≤ m → zR b rev.length ((zt rev.reverse).reverse ++ r) acc = some (rev.reverse ++ acc, r) by
  intro acc r h1 h2;have := H new.reverse acc r (by simpa using h1) (by simpa using h2)
  simpa using this
 intro rev
 induction rev with
 | nil => intro acc r _ _; simp [zR, zt]
 | cons t rev ih =>
  intro acc r hg hl;rw [List.reverse_cons, xG] at hg;rw [List.reverse_cons, xc, List.length_append] at hl;simp only [zt, List.append_nil] at hl;rw [List.reverse_cons, xc, List.reverse_append, List.append_assoc];simp only [zt, List.append_nil, List.length_cons, zR];rw [hb t _ hg.2.1 (by omega)];simp only [Option.bind_some];rw [ih (t :: acc) r hg.1 (by omega)]
  simp
theorem p_back_flat : ∀ (k : Nat) (t : Tr) (r : List Nd), p_good ok ar t → (xw t).length ≤ k → zV ok ar k ((xw t).reverse ++ r) = some (t, r) := by
 intro k
 induction k with
 | zero => intro t r _ h; have := p_flat_pos t; omega
 | succ k ih =>
  intro t r hg hl
  cases t with
  | mk x ks =>
   obtain ⟨h1, h2, h3⟩ := hg;simp only [xw, List.length_append, List.length_singleton] at hl;have e := p_kidsB_flats ok ar k (fun t r hg hl => ih t r hg hl) ks [] r h3 (by omega);simp only [xw, List.reverse_append, List.reverse_cons, List.reverse_nil, List.nil_append, List.cons_append, zV];rw [if_pos h1, ← h2, e]
   simp
theorem p_both (e : List Nd) (t : Tr) (k : Nat) (hk : e.length ≤ k) : xJ ok ar [] e = some [t] ↔ zV ok ar k e.reverse = some (t, []) := by
 rw [p_run_one]
 constructor
 · rintro ⟨h1, rfl⟩
   simpa using p_back_flat ok ar k t [] h1 hk
 · intro h
   obtain ⟨h1, h2⟩ := p_back_back ok ar k _ t [] h;refine ⟨h1, ?_⟩;have := congrArg List.reverse h2
   simpa using this
end
end Post
def okP (x : Nd) : Bool := okNdB x && xa x && qY x.f0 x.f3 x.f1.toNat && decide (0 ≤ x.f1)
def arP (x : Nd) : Nat := x.f1.toNat
theorem okP_iff (x : Nd) : okP x = true ↔ okNd x ∧ xa x = true ∧ qY x.f0 x.f3 x.f1.toNat = true ∧ 0 ≤ x.f1 := by
 unfold okP;simp only [Bool.and_eq_true, okNdB_iff, decide_eq_true_eq, and_assoc]
theorem step_same (st : List Tr) (x : Nd) (h : okNd x) : xt st x = p_step okP arP st x := by
 unfold xt p_step arP
 by_cases c : okP x = true ∧ x.f1.toNat ≤ st.length
 · obtain ⟨h1, h2⟩ := c
   obtain ⟨_, a1, a2, a3⟩ := (okP_iff x).1 h1
   have hn : ¬ (x.f1 < 0 ∨ (st.length : Int) < x.f1 ∨ xa x = false) := by
    rintro (h | h | h)
    · omega
    · omega
    · rw [a1] at h; cases h
   rw [if_neg hn, if_pos a2, if_pos ⟨h1, h2⟩]
 · rw [if_neg c]
   by_cases c1 : x.f1 < 0 ∨ (st.length : Int) < x.f1 ∨ xa x = false
   · rw [if_pos c1]
   · rw [if_neg c1]
     by_cases c2 : qY x.f0 x.f3 x.f1.toNat = true
     · exfalso
       have hh : xa x = true := by
        cases hb : xa x with
        | true => rfl
        | false => exact absurd (.inr (.inr hb)) c1
       exact c ⟨(okP_iff x).2 ⟨h, hh, c2, by omega⟩, by omega⟩
     · rw [if_neg c2]
theorem run_same : ∀ (xs : List Nd) (st : List Tr), (∀ x ∈ xs, okNd x) → runP st xs = xJ okP arP st xs
 | [], st, _ => rfl
 | x :: xs, st, h => by
  simp only [runP, xJ];rw [step_same st x (h x (by simp))]
  cases p_step okP arP st x with
  | none => rfl
  | some s => exact run_same xs s (fun y hy => h y (by simp [hy]))
theorem grown_iff (xs : List Nd) (h : ∀ x ∈ xs, okNd x) (t : Tr) : zE xs = some t ↔ xJ okP arP [] xs = some [t] := by
 unfold zE;rw [run_same xs [] h]
 constructor
 · intro h1
   split at h1
   · rename_i t2 h2; injection h1 with h1; rw [h2, h1]
   · cases h1
 · intro h1
   rw [h1]
mutual
theorem good_gd : ∀ t : Tr, p_good okP arP t → gdT t = true
 | ⟨x, ks⟩, h => by
  obtain ⟨h1, h2, h3⟩ := h;obtain ⟨a0, a1, a2, a3⟩ := (okP_iff x).1 h1;unfold arP at h2
  exact (gdT_iff x ks).2 ⟨(vD x _).2 ⟨a0, a1, by rw [h2]; exact a2⟩, goods_gd ks h3⟩
theorem goods_gd : ∀ ks : List Tr, zM okP arP ks → gdTs ks = true
 | [], _ => rfl
 | t :: ts, h => by
  simp only [gdTs, Bool.and_eq_true]
  exact ⟨good_gd t h.1, goods_gd ts h.2⟩
end
theorem grown_gd {xs : List Nd} {t : Tr} (h : ∀ x ∈ xs, okNd x) (hg : zE xs = some t) : gdT t = true :=
 good_gd t ((p_run_one okP arP xs t).1 ((grown_iff xs h t).1 hg)).1
abbrev CutR := Int × Int × Int × ByteArray × List Tr × Int × Bool
def encR : Option (Tr × List Nd) → CutR
 | some (t, r) => (t.f0.f0, t.f0.f1, t.f0.f2, t.f0.f3, t.f1, (r.length : Int) - 1, true)
 | none => (0, 0, 0, ⟨#[]⟩, [], 0, false)
def encK (x : Nd) : Option (List Tr × List Nd) → CutR
 | some (ks, r) => (x.f0, x.f1, x.f2, x.f3, ks, (r.length : Int) - 1, true)
 | none => (0, 0, 0, ⟨#[]⟩, [], 0, false)
theorem arity_neg (op f2 : Int) (s : ByteArray) (n : Int) (hn : n < 0) : qq.f 3 op n f2 s = some false := by
 have e0 : (n == 0) = false := by simp; omega
 have e1 : (n == 1) = false := by simp; omega
 have e2 : (n == 2) = false := by simp; omega
 have e3 : (n == 3) = false := by simp; omega
 have hc : op = 1 ∨ op = 2 ∨ op = 3 ∨ op = 4 ∨ op = 5 ∨ op = 6 ∨ op = 7 ∨ op = 8 ∨ op = 9 ∨ op = 10 ∨ op = 26 ∨ op = 27 ∨ op = 28 ∨ op = 29 ∨ (op < 1 ∨ 11 ≤ op ∧ op ≤ 25 ∨ 29 < op) := by omega
 have n1 : ¬ 1 ≤ n := by omega
 have n2 : ¬ 2 ≤ n := by omega
 have n3 : ¬ 3 ≤ n := by omega
 rcases hc with rfl | rfl | rfl | rfl | rfl | rfl | rfl | rfl | rfl | rfl | rfl | rfl | rfl | rfl | hc
 all_goals try (simp [qq.f, qq.j0, qq.j1, e0, e1, e2, e3, n1, n2, n3, qx.f, qx.j0]; done)
theorem ok_ref (x : Nd) (h : okNd x) : qq.f 3 x.f0 x.f1 x.f2 x.f3 = some (qY x.f0 x.f3 x.f1.toNat && decide (0 ≤ x.f1)) := by
 by_cases hn : x.f1 < 0
 · rw [arity_neg _ _ _ _ hn, decide_eq_false (by omega), Bool.and_false]
 · have e : x.f1 = ((x.f1.toNat : Nat) : Int) := by omega
   rw [decide_eq_true (by omega), Bool.and_true]
   conv => lhs; rw [e]
   exact arity_ref x.f0 x.f2 x.f3 x.f1.toNat
def RV (l : List Nd) (m : Nat) : List Nd := (l.take m).reverse
theorem RV_len (l : List Nd) (m : Nat) (h : m ≤ l.length) : (RV l m).length = m := by unfold RV; rw [List.length_reverse, List.length_take]; omega
theorem RV_succ (l : List Nd) (m : Nat) (h : m < l.length) : RV l (m + 1) = l[m] :: RV l m := by
 unfold RV;rw [List.take_succ_eq_append_getElem h, List.reverse_append]
 rfl
theorem RV_cut (l : List Nd) (m : Nat) (h : m ≤ l.length) (a b : List Nd) (e : RV l m = a ++ b) : b = RV l b.length ∧ b.length ≤ m := by
 have hl := RV_len l m h;have e2 := congrArg List.reverse e;unfold RV at e2;rw [List.reverse_reverse, List.reverse_append] at e2
 have hb : b.length ≤ m := by rw [e, List.length_append] at hl; omega
 refine ⟨?_, hb⟩;unfold RV
 have e3 : l.take b.length = (l.take m).take b.length := by rw [List.take_take, Nat.min_eq_left hb]
 rw [e3, e2, List.take_left' (by simp), List.reverse_reverse]
theorem cut_fail (k : Nat) (l : List Nd) (a : Int) : qv.j0 (k + 1) l a true = some (encR none) := by
 rw [qv.j0, if_pos rfl]
 rfl
theorem cut_ref (l : List Nd) (hl : l.length ≤ 1000000) (hok : ∀ x ∈ l, okNd x) : ∀ (M m : Nat), m < M → m ≤ l.length → Ev (fun k => qv.f k l ((m : Int) - 1)) (encR (zV okP arP M (RV l m))) := by
 intro M
 induction M with
 | zero => intro m h; omega
 | succ M ih =>
  intro m hm hml
  cases m with
  | zero =>
   have e : zV okP arP (M + 1) (RV l 0) = none := rfl;rw [e];refine Ev.step (f := fun k => qv.j0 k l (((0 : Nat) : Int) - 1) true) (fun k => ?_) (Ev.step (f := fun _ => some (encR none)) (fun k => cut_fail k l _) (Ev.now _));show qv.f (k + 1) l (((0 : Nat) : Int) - 1) = _;rw [qv.f, if_pos (by omega)]
  | succ q =>
   have hq : q < l.length := by omega
   rw [RV_succ l q hq];have hx := hok l[q] (List.getElem_mem hq);have hr : qi l (q : Int) = l[q] := rdN_lt l q hq
   have ha : ((q + 1 : Nat) : Int) - 1 = (q : Int) := by omega
   rw [ha];have hmem : l[q] ∈ l := List.getElem_mem hq;generalize l[q] = x at *
   have hA : ∀ k, 3 ≤ k → qq.f k x.f0 x.f1 x.f2 x.f3 = some (qY x.f0 x.f3 x.f1.toNat && decide (0 ≤ x.f1)) := fun k hk =>
    at_rounds (g := fun k => qq.f k x.f0 x.f1 x.f2 x.f3) (fun k => qq.mono _ _ _ _ k) hk (ok_ref x hx)
   have hP : ∀ k, 3 ≤ k → qz.f k x.f0 x.f1 x.f2 x.f3 = some (xa x) := fun k hk =>
    at_rounds (g := fun k => qz.f k x.f0 x.f1 x.f2 x.f3) (fun k => qz.mono _ _ _ _ k) (by omega : 1 ≤ k) (name_ref x)
   have hj : ∀ v, Ev (fun k => qv.j0 k l (q : Int) (!(okP x))) v → Ev (fun k => qv.f k l (q : Int)) v := by
    intro v e;refine ev_step ⟨3, fun k hk => ?_⟩ e;show qv.f (k + 1) l (q : Int) = _;rw [qv.f, if_neg (by omega), if_pos (by omega), if_pos (by omega), hr, hA k hk, Option.bind_some];have hb := (okNdB_iff x).2 hx;unfold okP;rw [hb, Bool.true_and]
    cases h1 : (qY x.f0 x.f3 x.f1.toNat && decide (0 ≤ x.f1)) with
    | true =>
     rw [if_pos rfl, hP k hk, Option.bind_some, Bool.and_assoc, h1, Bool.and_true]
    | false =>
     rw [if_neg (by decide), Bool.and_assoc, h1, Bool.and_false]
     rfl
   refine hj _ ?_
   have hback : zV okP arP (M + 1) (x :: RV l q) = if okP x = true then (zR (zV okP arP M) (arP x) (RV l q) []).map fun p => (⟨x, p.1⟩, p.2) else none := rfl
   rw [hback]
   by_cases hk : okP x = true
   · rw [if_pos hk, hk]
     obtain ⟨a0, a1, a2, a3⟩ := (okP_iff x).1 hk;have hnum := (xQ a2).1
     have hloop : ∀ (c m : Nat) (L acc : List Tr), m ≤ q → L.length = x.f1.toNat → c ≤ L.length → acc = L.drop c →
      Ev (fun k => qv.l0 k l ((m : Int) - 1) ((c : Int) - 1) x.f0 x.f1 x.f2 x.f3 L) (encK x (zR (zV okP arP M) c (RV l m) acc)) := by
      intro c
      induction c with
      | zero =>
       intro m L acc hmq hL hc hacc;refine Ev.step (f := fun _ => some (encK x (zR (zV okP arP M) 0 (RV l m) acc))) (fun k => ?_) (Ev.now _);show qv.l0 (k + 1) l ((m : Int) - 1) (((0 : Nat) : Int) - 1) x.f0 x.f1 x.f2 x.f3 L = _;rw [qv.l0, if_neg (by omega)];simp only [zR, encK];rw [RV_len l m (by omega), hacc, List.drop_zero]
      | succ c ihc =>
       intro m L acc hmq hL hc hacc;have e1 := ih m (by omega) (by omega);simp only [zR]
       cases hb : zV okP arP M (RV l m) with
       | none =>
        rw [hb] at e1;obtain ⟨K, e1⟩ := e1;refine ev_step (f := fun _ => some (encK x none)) ⟨K, fun k ab => ?_⟩ (Ev.now _);have e1 := e1 k ab
        dsimp only at e1
        show qv.l0 (k + 1) l ((m : Int) - 1) (((c + 1 : Nat) : Int) - 1) x.f0 x.f1 x.f2 x.f3 L = _;rw [qv.l0, if_pos (by omega), e1, Option.bind_some]
        rfl
       | some p =>
        obtain ⟨t, r⟩ := p;rw [hb] at e1;obtain ⟨hgd, hflat⟩ := p_back_back okP arP M _ t r hb;obtain ⟨ac, ai⟩ := RV_cut l m (by omega) _ _ hflat;obtain ⟨K, e1⟩ := e1
        have e2 := ihc r.length (L.set c t) (t :: acc) (by omega) (by rw [List.length_set]; exact hL) (by rw [List.length_set]; omega) (by
         have hd := List.drop_eq_getElem_cons (l := L.set c t) (i := c) (by rw [List.length_set]; omega)
         rw [hd, List.getElem_set_self, List.drop_set_of_lt (by omega), hacc])
        rw [← ac] at e2;simp only [Option.bind_some];refine ev_step ⟨K, fun k ab => ?_⟩ e2;have e1 := e1 k ab
        dsimp only at e1
        have ew : wrap64 (((c + 1 : Nat) : Int) - 1 - 1) = (c : Int) - 1 := by rw [zW (by omega) (by omega)]; omega
        show qv.l0 (k + 1) l ((m : Int) - 1) (((c + 1 : Nat) : Int) - 1) x.f0 x.f1 x.f2 x.f3 L = _;rw [qv.l0, if_pos (by omega), e1, Option.bind_some];simp only [encR, if_true];rw [if_pos (by omega), if_pos (by omega), ew]
        have ec : (((c + 1 : Nat) : Int) - 1).toNat = c := by omega
        rw [ec]
        cases t
        rfl
     have e := hloop x.f1.toNat q (List.replicate x.f1.toNat z130) [] (by omega) (by simp) (by simp) (by simp)
     have henc : encR ((zR (zV okP arP M) (arP x) (RV l q) []).map fun p => (⟨x, p.1⟩, p.2)) = encK x (zR (zV okP arP M) x.f1.toNat (RV l q) []) := by
      show encR ((zR (zV okP arP M) x.f1.toNat (RV l q) []).map fun p => (⟨x, p.1⟩, p.2)) = _
      cases zR (zV okP arP M) x.f1.toNat (RV l q) [] with
      | none => rfl
      | some p => rfl
     rw [henc];refine Ev.step (fun k => ?_) e
     have e0 : ((x.f1.toNat : Nat) : Int) = x.f1 := by omega
     show qv.j0 (k + 1) l (q : Int) false = _;rw [qv.j0, if_neg (by decide), if_pos (by omega), if_pos (by omega), hr, if_pos a3, if_pos (by omega), zW (by omega) (by omega), zW (by omega) (by unfold okNd at hx; omega), e0]
   · have ab : okP x = false := by simpa using hk
     rw [if_neg hk, ab]
     exact Ev.step (f := fun _ => some (encR none)) (fun k => cut_fail k l _) (Ev.now _)
theorem ofExpr_ref (l : List Nd) (hl : l.length ≤ 1000000) (hok : ∀ x ∈ l, okNd x) :
 (∃ t, zE l = some t ∧ Ev (fun k => qZ.f k l) (t.f0.f0, t.f0.f1, t.f0.f2, t.f0.f3, t.f1, true)) ∨ (zE l = none ∧ ∃ a b c d ks, Ev (fun k => qZ.f k l) (a, b, c, d, ks, false)) := by
 have hfull : RV l l.length = l.reverse := by unfold RV; rw [List.take_length]
 obtain ⟨K, e⟩ := cut_ref l hl hok (l.length + 1) l.length (by omega) (Nat.le_refl _);rw [hfull] at e
 have hboth := fun t => p_both okP arP l t (l.length + 1) (by omega)
 have hunf : ∀ k, K ≤ k → qZ.f k l = (some (encR (zV okP arP (l.length + 1) l.reverse))).bind fun aa => (if aa.2.2.2.2.2.2 = true then (some (aa.1, aa.2.1, aa.2.2.1, aa.2.2.2.1, aa.2.2.2.2.1, (aa.2.2.2.2.2.1 == (-1)))) else (some (aa.1, aa.2.1, aa.2.2.1, aa.2.2.2.1, aa.2.2.2.2.1, false))) := by
  intro k hk;unfold qZ.f;have e := e k hk
  dsimp only at e
  rw [zW (by omega) (by omega), e]
 cases hb : zV okP arP (l.length + 1) l.reverse with
 | none =>
  refine .inr ⟨?_, 0, 0, 0, ⟨#[]⟩, [], K, fun k hk => ?_⟩
  · cases hg : zE l with
    | none => rfl
    | some t =>
     have := (hboth t).1 ((grown_iff l hok t).1 hg);rw [hb] at this
     cases this
  · show qZ.f k l = _
    rw [hunf k hk, hb]
    rfl
 | some p =>
  obtain ⟨t, r⟩ := p
  by_cases hr : r = []
  · subst hr
    have hg := (grown_iff l hok t).2 ((hboth t).2 hb);refine .inl ⟨t, hg, K, fun k hk => ?_⟩;show qZ.f k l = _;rw [hunf k hk, hb]
    rfl
  · refine .inr ⟨?_, t.f0.f0, t.f0.f1, t.f0.f2, t.f0.f3, t.f1, K, fun k hk => ?_⟩
    · cases hg : zE l with
      | none => rfl
      | some t2 =>
       have := (hboth t2).1 ((grown_iff l hok t2).1 hg);rw [hb] at this
       injection this with this
       injection this with _ this
       exact absurd this hr
    · have ac : 0 < r.length := List.length_pos_iff.2 hr
      show qZ.f k l = _;rw [hunf k hk, hb];simp only [encR, Option.bind_some, if_true]
      have : (((r.length : Int) - 1) == -1) = false := by simp; omega
      rw [this]
theorem dep_opd (t : Tr) : opdD 1 t (dep t) = dep t ∧ opd 1 t (shw t).1 = (shw t).1 ∧ opdD 0 t (dep t) = dep t := by
 have := lev_one t;unfold opdD opd
 exact ⟨if_neg (by omega), if_neg (by omega), if_neg (by omega)⟩
set_option maxHeartbeats 4000000 in
set_option maxRecDepth 100000 in
theorem printR_some (l : List Nd) (hl : l.length ≤ 1000000) (hw : wtL l ≤ 140737488355328) (hok : ∀ x ∈ l, okNd x) (op f1 f2 : Int) (f3 : ByteArray) (ks : List Tr) (hg : zE l = some ⟨⟨op, f1, f2, f3⟩, ks⟩) (K : Nat) (he : qZ.f K l = some (op, f1, f2, f3, ks, true)) (A : Option Addr) (c : Nat) (w : World) (hC : Kd.C k86 w A l.length l) (hc : l.length ≤ c) :
 Calls Tryz.prog 33 #[.slice A l.length c] w fun e w' => e = .returned (.tuple #[.string (str (zB l).1), .int .i64 (zB l).2]) ∧ Below w.heap.size w w' := by
 have hk := grown_keeps hg;have hwt := grown_wt hg;have hgd := grown_gd hok hg;have hdo := dep_opd ⟨⟨op, f1, f2, f3⟩, ks⟩;have hD := deep_ok (zS ⟨⟨op, f1, f2, f3⟩, ks⟩) ⟨⟨op, f1, f2, f3⟩, ks⟩ (Nat.le_refl _) (by omega) hgd;unfold DeepOK at hD;have HD : Aside0 (∀ (A : Option Addr) (c : Nat) (w : World), Kd.C k130 w A ks.length ks → ks.length ≤ c → Calls Tryz.prog 71 #[.agg #[.int .i64 op, .int .i64 f1, .int .i64 f2, .string f3, .slice A ks.length c], .int .i64 0] w fun e w' => e = .returned (.int .i64 ((dep ⟨⟨op, f1, f2, f3⟩, ks⟩ : Nat) : Int)) ∧ Below w.heap.size w w') := ⟨fun A c w h1 h2 => by have := hD 0 A c w h1 h2; rw [hdo.2.2] at this; exact this⟩;have HS : Aside0 (xb.f op f1 f2 f3 ks = some (str (shw ⟨⟨op, f1, f2, f3⟩, ks⟩).1)) := ⟨by unfold xb.f showN; exact if_pos ⟨hgd, by omega⟩⟩
 have hP : zB l = if (dep ⟨⟨op, f1, f2, f3⟩, ks⟩ : Int) ≤ 32 then ((shw ⟨⟨op, f1, f2, f3⟩, ks⟩).1, 0) else ([], 159) := by
  unfold zB xP;rw [hg];simp only [hdo.1, hdo.2.1, decide_eq_true_eq]
 have HE := Aside0.mk he;have HC := Aside0.mk hC;have HCC := Aside0.mk hc;rw [hP];clear hP hk hwt hgd hdo hD he hC hc hg hok hw hl;generalize dep ⟨⟨op, f1, f2, f3⟩, ks⟩ = dp at *;generalize (shw ⟨⟨op, f1, f2, f3⟩, ks⟩).1 = tx at *
 by_cases hd : (dp : Int) ≤ 32
 · rw [if_pos hd]
   have e1 : decide ((dp : Int) > 32) = false := decide_eq_false (by omega)
   have e2 : ¬ 32 < dp := by omega
   clear hd
   go_enter Tryz.func33, Tryz.ntmps33
   go_wp2_with (first
    | (go_at_call 70; go_must (refine (qZ.calls K A c l op f1 f2 f3 ks true _ HC.out HCC.out HE.out).mono ?_; rintro e w1 ⟨v4, rfl, hr, hb⟩; obtain ⟨A4, c4, rfl, gc, gC⟩ := Kd.R_reads hr; have HGC := Aside0.mk gC; have HB := Aside0.mk hb; have aa := Aside0.mk (q8 (Below.refl w1.heap.size w1) (TO ⟨op, f1, f2, f3⟩ ks A4 c4)); have K1 := qL w1 (TO ⟨op, f1, f2, f3⟩ ks A4 c4); clear hb hr gC))
    | (go_at_call 71; go_must (refine (HD.out A4 c4 _ (Kd.C_below HGC.out aa.out) gc).mono ?_; rintro e w2 ⟨rfl, hb⟩; have ac := Aside0.mk (qy aa.out aa.out.size hb); have k1 := (hb.block w1.heap.size (zv K1)).trans K1; have ak : w2.cell? ⟨w1.heap.size, 0, none⟩ = some (.int .i64 op) := (qa k1 0).trans rfl; have al : w2.cell? ⟨w1.heap.size, 1, none⟩ = some (.int .i64 f1) := (qa k1 1).trans rfl; have am : w2.cell? ⟨w1.heap.size, 2, none⟩ = some (.int .i64 f2) := (qa k1 2).trans rfl; have an : w2.cell? ⟨w1.heap.size, 3, none⟩ = some (.string f3) := (qa k1 3).trans rfl; have ao : w2.cell? ⟨w1.heap.size, 4, none⟩ = some (.slice A4 ks.length c4) := (qa k1 4).trans rfl; clear hb))
    | (go_at_call 72; go_must (refine (xb.calls op f1 f2 f3 A4 c4 ks _ _ (Kd.C_below HGC.out ac.out) gc HS.out).mono ?_; rintro e w3 ⟨rfl, hb⟩; have af := Aside0.mk (qy ac.out ac.out.size hb); clear hb)))
   go_ret2
   exact ⟨rfl, qy HB.out HB.out.size af.out⟩
 · rw [if_neg hd]
   have e1 : decide ((dp : Int) > 32) = true := decide_eq_true (by omega)
   have e2 : 32 < dp := by omega
   clear hd
   go_enter Tryz.func33, Tryz.ntmps33
   go_wp2_with (first
    | (go_at_call 70; go_must (refine (qZ.calls K A c l op f1 f2 f3 ks true _ HC.out HCC.out HE.out).mono ?_; rintro e w1 ⟨v4, rfl, hr, hb⟩; obtain ⟨A4, c4, rfl, gc, gC⟩ := Kd.R_reads hr; have HGC := Aside0.mk gC; have HB := Aside0.mk hb; have aa := Aside0.mk (q8 (Below.refl w1.heap.size w1) (TO ⟨op, f1, f2, f3⟩ ks A4 c4)); clear hb hr gC))
    | (go_at_call 71; go_must (refine (HD.out A4 c4 _ (Kd.C_below HGC.out aa.out) gc).mono ?_; rintro e w2 ⟨rfl, hb⟩; have ac := Aside0.mk (qy aa.out aa.out.size hb); clear hb)))
   go_ret2
   exact ⟨rfl, qy HB.out HB.out.size ac.out⟩
set_option maxHeartbeats 4000000 in
set_option maxRecDepth 100000 in
theorem printR_none (l : List Nd) (hg : zE l = none) (K : Nat) (a b d : Int) (s : ByteArray) (ks : List Tr) (he : qZ.f K l = some (a, b, d, s, ks, false)) (A : Option Addr) (c : Nat) (w : World) (hC : Kd.C k86 w A l.length l) (hc : l.length ≤ c) :
 Calls Tryz.prog 33 #[.slice A l.length c] w fun e w' => e = .returned (.tuple #[.string (str (zB l).1), .int .i64 (zB l).2]) ∧ Below w.heap.size w w' := by
 have hP : zB l = ([], 159) := by
  unfold zB xP;rw [hg]
  rfl
 have HE := Aside0.mk he;have HC := Aside0.mk hC;have HCC := Aside0.mk hc;rw [hP];clear hP he hC hc hg
 go_enter Tryz.func33, Tryz.ntmps33
 go_wp2_with (first
  | (go_at_call 70; go_must (refine (qZ.calls K A c l a b d s ks false _ HC.out HCC.out HE.out).mono ?_; rintro e w1 ⟨v4, rfl, hr, hb⟩; obtain ⟨A4, c4, rfl, gc, gC⟩ := Kd.R_reads hr; have HB := Aside0.mk hb; have aa := Aside0.mk (q8 (Below.refl w1.heap.size w1) (TO ⟨a, b, d, s⟩ ks A4 c4)); clear hb hr gC)))
 go_ret2
 exact ⟨rfl, qy HB.out HB.out.size aa.out⟩
def ze.f (l : List S86) : Option (ByteArray × Int) := zz.f l
theorem ze.calls (A0 : Option Addr) (c0 : Nat) (l0 : List S86) (r1 : ByteArray) (r2 : Int) (w : World) (ab : Kd.C k86 w A0 l0.length l0) (ac : l0.length ≤ c0) (h : ze.f l0 = some (r1, r2)) :
 Calls Tryz.prog 33 #[.slice A0 l0.length c0] w fun e w' => e = .returned (.tuple #[.string r1, .int .i64 r2]) ∧ Below w.heap.size w w' := by
 unfold ze.f zz.f at h
 by_cases hi : okIn l0 = true
 · rw [if_pos hi] at h
   obtain ⟨h1, h2, h3⟩ := (okIn_iff l0).1 hi;simp only [Option.some.injEq, Prod.mk.injEq] at h;obtain ⟨rfl, rfl⟩ := h
   rcases ofExpr_ref l0 h1 h3 with ⟨t, hg, he⟩ | ⟨hg, a, b, d, s, ks, he⟩
   · obtain ⟨K, he⟩ := he.rounds
     cases t with
     | mk x ks => exact printR_some l0 h1 h2 h3 x.f0 x.f1 x.f2 x.f3 ks hg K he A0 c0 w ab ac
   · obtain ⟨K, he⟩ := he.rounds
     exact printR_none l0 hg K a b d s ks he A0 c0 w ab ac
 · rw [if_neg hi] at h
   cases h
def qT.l0 : Nat → List (S93) → ByteArray → Int → Option (Int)
 | 0, _, _, _ => none
 | k + 1, x0, x1, x5 => if x5 < (x0.length : Int) then (if 0 ≤ x5 then (if ((zr x0 x5).f0).toList = x1.toList then (some x5) else (qT.l0 k x0 x1 (wrap64 (x5 + 1)))) else (none)) else (some (-1))
def qT.f (k : Nat) (l0 : List (S93)) (a1 : ByteArray) : Option (Int) := qT.l0 k l0 a1 0
set_option maxHeartbeats 8000000 in
set_option maxRecDepth 100000 in
theorem qT.calls (k : Nat) (A0 : Option Addr) (c0 : Nat) (l0 : List (S93)) (a1 : ByteArray) (r : Int) (w : World) (al : Kd.C k93 w A0 l0.length l0) (am : l0.length ≤ c0) (h : qT.f k l0 a1 = some r) :
 Calls Tryz.prog 41 #[.slice A0 l0.length c0, .string a1] w fun e w' => e = .returned (.int .i64 r) ∧ qt w w' := by
 have an := Aside0.mk al;have az := Aside0.mk am;clear al am;have H : (qT.l0 k l0 a1 0) = some r := h;clear h;have H' := Aside0.mk H;clear H
 go_enter Tryz.func41, Tryz.ntmps41
 go_wp2
 go_loopg [5] k (fun kq v5 w' => ∃ (aa : Int), v5 = .int .i64 aa ∧ Aside0 (qT.l0 kq l0 a1 aa = some r) ∧ Aside0 (kq ≤ k) ∧ qt w w')
 case atStart => exact ⟨(0), (by first | rfl | (simp; done) | (simp [*]; done)), H', ⟨Nat.le_refl _⟩, by repeat (first | exact qt.refl _ | apply qt.step)⟩
 case round =>
  clear H'
  (try clear p2)
  obtain ⟨aa, rfl, HA, ao, ⟨m1, rfl⟩⟩ := hrel
  cases gk with
  | zero => exact absurd HA.out (by simp [qT.l0])
  | succ k1 =>
   have H := HA.out;clear HA;simp only [qT.l0] at H
   by_cases c3 : aa < (l0.length : Int)
   · rw [if_pos c3] at H
     have ap : decide (aa < (l0.length : Int)) = true := decide_eq_true c3;clear c3
     by_cases c4 : 0 ≤ aa
     · rw [if_pos c4] at H
       have ay : decide (0 ≤ aa) = true := decide_eq_true c4;clear c4
       by_cases c5 : ((zr l0 aa).f0).toList = a1.toList
       · rw [if_pos c5] at H
         have au : (((zr l0 aa).f0).toList == a1.toList) = true := beq_iff_eq.mpr c5;have av : (((zr l0 aa).f0).toList != a1.toList) = false := bne_eq_false_iff_eq.mpr c5;clear c5;obtain rfl := Option.some.inj H;have ab : 0 ≤ (aa : Int) := of_decide_eq_true (by first | (with_reducible assumption) | assumption);have ac : aa < (l0.length : Int) := of_decide_eq_true (by first | (with_reducible assumption) | assumption);obtain ⟨ak, ag, ah, ai, aj⟩ := at_T93 an.out aa ab ac;cases ag;replace ab := eq_true ab;replace ac := eq_true ac;go_wp2
         go_ret
         exact ⟨by first | rfl | (simp; done) | (simp [*]; done), by repeat (first | exact qt.refl _ | apply qt.step)⟩
       · rw [if_neg c5] at H
         have au : (((zr l0 aa).f0).toList == a1.toList) = false := beq_eq_false_iff_ne.mpr c5;have av : (((zr l0 aa).f0).toList != a1.toList) = true := bne_iff_ne.mpr c5;have H' := Aside0.mk H;clear H;have ab : 0 ≤ (aa : Int) := of_decide_eq_true (by first | (with_reducible assumption) | assumption);have ac : aa < (l0.length : Int) := of_decide_eq_true (by first | (with_reducible assumption) | assumption);obtain ⟨ak, ag, ah, ai, aj⟩ := at_T93 an.out aa ab ac;cases ag;replace ab := eq_true ab;replace ac := eq_true ac;go_wp2
         go_roundg k1
         case measure => have := ao.out; omega
         case rel => exact ⟨(wrap64 (aa + 1)), (by first | rfl | (simp; done) | (simp [*]; done)), H', ⟨by have := ao.out; omega⟩, by repeat (first | exact qt.refl _ | apply qt.step)⟩
     · rw [if_neg c4] at H
       exact absurd H (by simp)
   · rw [if_neg c3] at H
     have ap : decide (aa < (l0.length : Int)) = false := decide_eq_false c3;clear c3;obtain rfl := Option.some.inj H;go_wp2
     go_ret
     exact ⟨by first | rfl | (simp; done) | (simp [*]; done), by repeat (first | exact qt.refl _ | apply qt.step)⟩
end Go.Proofs.YtfmgbgkcmmpcfaaGreatDoor.PTk

