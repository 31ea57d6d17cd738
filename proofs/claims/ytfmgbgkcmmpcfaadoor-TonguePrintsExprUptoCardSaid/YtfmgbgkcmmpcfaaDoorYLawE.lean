import Derived.Test.YtfmgbgkcmmpcfaaDoorYPTxx0
import Derived.Outline
import Derived.Deep.DeepMust
import Derived.Deep.DeepFit
import Derived.RegionDies
import Derived.Maps.AppendAt
import Derived.Deep.QuietTactic
import Derived.BigQuiet
import Derived.Test.YtfmgbgkcmmpcfaaDoorYShelf
import Derived.Test.YtfmgbgkcmmpcfaaDoorYPTxx19
import Derived.Deep.RegionLaw
import Derived.Lib.Zigzag
import Derived.Lib.SplitLaws
import Derived.Laws.EntriesVeiled
import Derived.Laws.Rows
import Derived.Deep.RegionWith
import Derived.Deep.RegionHeld3
import Derived.Deep.CutBlock
import Derived.Lib.ItoaLen
import Derived.Lib.OthersKept
namespace Go.Proofs.YtfmgbgkcmmpcfaaDoor.PTx
open Go.RowKit Go.Proofs.YtfmgbgkcmmpcfaaDoorW.PrintWords Go.Proofs.YtfmgbgkcmmpcfaaDoorW.PrintLast Go.Proofs.YtfmgbgkcmmpcfaaDoorW.PrintMore
attribute [local go_sem] zu zC
set_option linter.unusedVariables false
set_option linter.unusedSimpArgs false
theorem mx_nat (a b : Nat) : mx (a : Int) (b : Int) = ((max a b : Nat) : Int) := by
 unfold mx
 by_cases h : (a : Int) < (b : Int)
 · rw [if_pos h]; omega
 · rw [if_neg h]; omega
theorem deep_next (k acc i d : Nat) (op f1 f2 : Int) (f3 : ByteArray) (ks : List Tr) (hi : i < ks.length) (hk : ks.length ≤ 100) (ag : 1 ≤ op) (ah : op ≤ 29) (hd : d ≤ 1000000000) (h4 : 4 ≤ k)
 (h : qn.f k ks[i].f0.f0 ks[i].f0.f1 ks[i].f0.f2 ks[i].f0.f3 ks[i].f1 (zp op i) = some (d : Int)) :
 qn.l0 (k + 1) (acc : Int) (i : Int) op f1 f2 f3 ks = qn.l0 k ((max acc (d + xr op i) : Nat) : Int) ((i + 1 : Nat) : Int) op f1 f2 f3 ks := by
 have hw : qm.f k op (i : Int) = some (zp op i) :=
  xQ (g := fun k => qm.f k op (i : Int)) (fun k => qm.mono _ _ k) h4 (wants_ref op i ag ah (by omega))
 have hr : qu ks (i : Int) = ks[i] := by
  have : qu ks (i : Int) = kid ks i := rfl;rw [this, xJ ks i hi]
 have ew : wrap64 ((i : Int) + 1) = ((i + 1 : Nat) : Int) := by rw [zD (by omega) (by omega)]; omega
 have ed : wrap64 ((d : Int) + 1) = ((d + 1 : Nat) : Int) := by rw [zD (by omega) (by omega)]; omega
 rw [qn.l0, if_pos (by omega), if_pos (by omega), hw, Option.bind_some, hr, h, Option.bind_some, ew, ed, mx_nat, mx_nat];unfold xr
 by_cases c8 : op = 8
 · rw [if_pos c8, if_pos (.inl c8)]
 rw [if_neg c8]
 by_cases c7 : op = 7
 · rw [if_pos c7, if_pos (.inr (.inl c7))]
 rw [if_neg c7]
 by_cases aa : op = 28
 · rw [if_pos aa, if_pos (.inr (.inr (.inl aa)))]
 rw [if_neg aa]
 by_cases ab : op = 29
 · rw [if_pos ab, if_pos (.inr (.inr (.inr (.inl ab))))]
 rw [if_neg ab]
 by_cases ac : op = 27
 · rw [if_pos ac]
   by_cases hp : 0 < i
   · rw [if_pos (by omega), if_pos (.inr (.inr (.inr (.inr ⟨ac, hp⟩))))]
   · rw [if_neg (by omega), if_neg (by omega)]
     rfl
 · rw [if_neg ac, if_neg (by omega)]
   rfl
theorem deep_ref : ∀ (n : Nat) (t : Tr), zK t ≤ n → zK t ≤ 1000000 → gdT t = true → ∀ want, Ev (fun k => qn.f k t.f0.f0 t.f0.f1 t.f0.f2 t.f0.f3 t.f1 want) ((opdD want t (dep t) : Nat) : Int) := by
 intro n
 induction n with
 | zero => intro t h; have := nodes_pos t; omega
 | succ n ih =>
  intro t hn hb hg;have hD := dep_le t;obtain ⟨⟨op, f1, f2, f3⟩, ks⟩ := t;obtain ⟨h1, h2⟩ := (gdT_iff _ _).1 hg;obtain ⟨_, _, ht⟩ := (ve _ _).1 h1;have aa := vm ht;have ab := takes_le ht;have hnum := xD ht
  dsimp only at aa ab hnum ⊢
  have hkn : ∀ i (hi : i < ks.length), zK ks[i] + 1 ≤ zK ⟨⟨op, f1, f2, f3⟩, ks⟩ := fun i hi => by
   have := nodes_at ks i hi;simp only [zK]
   omega
  have h8 : op = 8 → ks ≠ [] := fun h8 h0 => by
   have := hnum.2.1 (.inr (.inl h8));rw [h0] at this
   simp at this
  have hkid : ∀ i (hi : i < ks.length) (want : Int), Ev (fun k => qn.f k ks[i].f0.f0 ks[i].f0.f1 ks[i].f0.f2 ks[i].f0.f3 ks[i].f1 want) ((opdD want ks[i] (dep ks[i]) : Nat) : Int) := fun i hi want =>
   ih ks[i] (by have := hkn i hi; omega) (by have := hkn i hi; omega) (gdTs_mem h2 _ (List.getElem_mem hi)) want
  have hkd : ∀ i (hi : i < ks.length), dep ks[i] ≤ 2000000 := fun i hi => by
   have := dep_le ks[i];have := hkn i hi
   omega
  have hsg := sugar_ref op f1 f2 f3 ks h8
  have hbody : Ev (fun k => (qW.f op f1 f2 f3 ks).bind fun ae => (if ae = true then (if 0 < (ks.length : Int) then ((qn.f k ((qu ks 0).f0.f0) ((qu ks 0).f0.f1) ((qu ks 0).f0.f2) ((qu ks 0).f0.f3) ((qu ks 0).f1) 0).bind fun af => (some af)) else (none)) else (qn.l0 k 0 0 op f1 f2 f3 ks))) ((dep ⟨⟨op, f1, f2, f3⟩, ks⟩ : Nat) : Int) := by
   by_cases hs : op = 8 ∧ zF (kid ks 0).f0.f0 = true
   · have hlen : 0 < ks.length := List.length_pos_iff.2 (h8 hs.1)
     obtain ⟨K, e⟩ := hkid 0 hlen 0
     have hz : opdD 0 ks[0] (dep ks[0]) = dep ks[0] := by
      have := lev_one ks[0];unfold opdD;rw [if_neg (by omega)]
     refine ⟨K, fun k hk => ?_⟩;have e := e k hk
     have hr : qu ks 0 = ks[0] := by
      have : qu ks 0 = kid ks 0 := rfl;rw [this, xJ ks 0 hlen]
     dsimp only at e ⊢
     rw [hsg, decide_eq_true hs.1, hs.2, Option.bind_some, Bool.and_self, if_pos rfl, if_pos (by omega), hr, e, Option.bind_some, hz];simp only [dep];rw [if_pos hs, deps_at ks 0 hlen]
   · have hsf : (decide (op = 8) && zF (kid ks 0).f0.f0) = false := by
      cases hb : (decide (op = 8) && zF (kid ks 0).f0.f0) with
      | false => rfl
      | true =>
       simp only [Bool.and_eq_true, decide_eq_true_eq] at hb;exact absurd hb hs
     have hdep : dep ⟨⟨op, f1, f2, f3⟩, ks⟩ = maxD ⟨op, f1, f2, f3⟩ 0 (ks.zip (deps ks)) := by
      simp only [dep];rw [if_neg hs]
     have hloop : ∀ (m i acc : Nat), ks.length - i < m → Ev (fun k => qn.l0 k (acc : Int) (i : Int) op f1 f2 f3 ks) ((max acc (maxD ⟨op, f1, f2, f3⟩ i ((ks.zip (deps ks)).drop i)) : Nat) : Int) := by
      intro m
      induction m with
      | zero => intro i acc h; omega
      | succ m ihm =>
       intro i acc hm
       by_cases hlt : i < ks.length
       · obtain ⟨K, e⟩ := hkid i hlt (zp op i)
         have hdl := hkd i hlt
         have hz : i < (ks.zip (deps ks)).length := by rw [List.length_zip, deps_len]; omega
         have hat : (ks.zip (deps ks))[i] = (ks[i], dep ks[i]) := by
          have ag : i < (deps ks).length := by rw [deps_len]; exact hlt
          have := deps_at ks i hlt;simp only [List.getD_eq_getElem?_getD, List.getElem?_eq_getElem ag, Option.getD_some] at this;simp only [List.getElem_zip, this]
         rw [List.drop_eq_getElem_cons hz, hat];have e2 := ihm (i + 1) (max acc (opdD (zp op i) ks[i] (dep ks[i]) + xr op i)) (by omega)
         have hv : max acc (maxD ⟨op, f1, f2, f3⟩ i ((ks[i], dep ks[i]) :: (ks.zip (deps ks)).drop (i + 1))) = max (max acc (opdD (zp op i) ks[i] (dep ks[i]) + xr op i)) (maxD ⟨op, f1, f2, f3⟩ (i + 1) ((ks.zip (deps ks)).drop (i + 1))) := by
          simp only [maxD]
          omega
         rw [hv]
         have ah : opdD (zp op i) ks[i] (dep ks[i]) ≤ 1000000000 := by unfold opdD; split <;> omega
         exact xd ⟨max K 4, fun k hk => deep_next k acc i _ op f1 f2 f3 ks hlt (by omega) aa ab ah (by omega) (e k (by omega))⟩ e2
       · have hz : (ks.zip (deps ks)).drop i = [] := List.drop_eq_nil_of_le (by rw [List.length_zip, deps_len]; omega)
         rw [hz];refine Ev.step (f := fun _ => some (acc : Int)) (fun k => ?_) ?_
         · show qn.l0 (k + 1) (acc : Int) (i : Int) op f1 f2 f3 ks = _
           rw [qn.l0, if_neg (by omega)]
         · have : max acc (maxD ⟨op, f1, f2, f3⟩ i []) = acc := by simp [maxD]
           rw [this]
           exact Ev.now _
     have e := hloop (ks.length + 1) 0 0 (by omega);rw [List.drop_zero, Nat.zero_max, ← hdep] at e;refine Ev.congr (fun k => ?_) e;rw [hsg, hsf, Option.bind_some, if_neg (by decide)]
     rfl
  have hlv : ∀ k, 4 ≤ k → qp.f k op f1 f2 f3 ks = some (levI ⟨⟨op, f1, f2, f3⟩, ks⟩) := fun k hk =>
   xQ (g := fun k => qp.f k op f1 f2 f3 ks) (fun k => qp.mono _ _ _ _ _ k) hk (level_ref ⟨op, f1, f2, f3⟩ ks aa ab h8)
  have hflat : ∀ want, ¬ levI ⟨⟨op, f1, f2, f3⟩, ks⟩ < want → Ev (fun k => qn.f k op f1 f2 f3 ks want) ((dep ⟨⟨op, f1, f2, f3⟩, ks⟩ : Nat) : Int) := by
   intro want hw;refine xd ⟨4, fun k hk => ?_⟩ hbody;show qn.f (k + 1) op f1 f2 f3 ks want = _;rw [qn.f, hlv k hk, Option.bind_some, if_neg hw]
  intro want
  by_cases hw : levI ⟨⟨op, f1, f2, f3⟩, ks⟩ < want
  · have hv : opdD want ⟨⟨op, f1, f2, f3⟩, ks⟩ (dep ⟨⟨op, f1, f2, f3⟩, ks⟩) = 1 + dep ⟨⟨op, f1, f2, f3⟩, ks⟩ := by unfold opdD; rw [if_pos hw]
    rw [hv];obtain ⟨K, e⟩ := hflat 0 (by have := lev_one ⟨⟨op, f1, f2, f3⟩, ks⟩; omega);refine xd (f := fun _ => some ((1 + dep ⟨⟨op, f1, f2, f3⟩, ks⟩ : Nat) : Int)) ⟨max K 4, fun k hk => ?_⟩ (Ev.now _);have e := e k (by omega)
    dsimp only at e
    show qn.f (k + 1) op f1 f2 f3 ks want = _;rw [qn.f, hlv k (by omega), Option.bind_some, if_pos hw, e, Option.bind_some, zD (by omega) (by omega)]
    apply congrArg some
    omega
  · have hv : opdD want ⟨⟨op, f1, f2, f3⟩, ks⟩ (dep ⟨⟨op, f1, f2, f3⟩, ks⟩) = dep ⟨⟨op, f1, f2, f3⟩, ks⟩ := by unfold opdD; rw [if_neg hw]
    rw [hv]
    exact hflat want hw
section Post
variable (ok : Nd → Bool) (ar : Nd → Nat)
mutual
def xi : Tr → List Nd
 | ⟨x, ks⟩ => zq ks ++ [x]
def zq : List Tr → List Nd
 | [] => []
 | t :: ts => xi t ++ zq ts
end
mutual
def p_good : Tr → Prop
 | ⟨x, ks⟩ => ok x = true ∧ ks.length = ar x ∧ zJ ks
def zJ : List Tr → Prop
 | [] => True
 | t :: ts => p_good t ∧ zJ ts
end
theorem zV : ∀ (a b : List Tr), zq (a ++ b) = zq a ++ zq b
 | [], b => by simp [zq]
 | t :: ts, b => by simp [zq, zV ts b]
theorem xy : ∀ (a b : List Tr), zJ ok ar (a ++ b) ↔ zJ ok ar a ∧ zJ ok ar b
 | [], b => by simp [zJ]
 | t :: ts, b => by simp [zJ, xy ts b, and_assoc]
theorem p_goods_take_drop (n : Nat) (a : List Tr) (h : zJ ok ar a) : zJ ok ar (a.take n) ∧ zJ ok ar (a.drop n) := by
 rw [← xy, List.take_append_drop]
 exact h
theorem p_flat_pos (t : Tr) : 0 < (xi t).length := by
 cases t with
 | mk x ks => simp [xi]
def p_step (st : List Tr) (x : Nd) : Option (List Tr) :=
 if ok x = true ∧ ar x ≤ st.length then some (st.take (st.length - ar x) ++ [⟨x, st.drop (st.length - ar x)⟩]) else none
def xz (st : List Tr) : List Nd → Option (List Tr)
 | [] => some st
 | x :: e => (p_step ok ar st x).bind fun s => xz s e
theorem p_run_append (a b : List Nd) : ∀ st : List Tr, xz ok ar st (a ++ b) = (xz ok ar st a).bind fun s => xz ok ar s b := by
 induction a with
 | nil => intro st; simp [xz]
 | cons x a ih =>
  intro st;simp only [List.cons_append, xz]
  cases p_step ok ar st x with
  | none => rfl
  | some s => simp [ih]
mutual
theorem p_run_flat : ∀ (t : Tr) (st : List Tr), p_good ok ar t → xz ok ar st (xi t) = some (st ++ [t])
 | ⟨x, ks⟩, st, h => by
  obtain ⟨h1, h2, h3⟩ := h;rw [xi, p_run_append, p_run_flats ks st h3];simp only [Option.bind_some, xz, p_step];rw [if_pos ⟨h1, by rw [List.length_append]; omega⟩]
  have e : (st ++ ks).length - ar x = st.length := by rw [List.length_append]; omega
  rw [e]
  simp
theorem p_run_flats : ∀ (ts : List Tr) (st : List Tr), zJ ok ar ts → xz ok ar st (zq ts) = some (st ++ ts)
 | [], st, _ => by simp [zq, xz]
 | t :: ts, st, h => by
  rw [zq, p_run_append, p_run_flat t st h.1];simp only [Option.bind_some];rw [p_run_flats ts _ h.2]
  simp
end
theorem p_run_back : ∀ (e : List Nd) (st st' : List Tr), zJ ok ar st → xz ok ar st e = some st' → zJ ok ar st' ∧ zq st ++ e = zq st' := by
 intro e
 induction e with
 | nil =>
  intro st st' hg h;simp only [xz, Option.some.injEq] at h;subst h
  exact ⟨hg, by simp⟩
 | cons x e ih =>
  intro st st' hg h;simp only [xz, Option.bind_eq_some_iff] at h;obtain ⟨s, hs, h⟩ := h;unfold p_step at hs
  split at hs
  · rename_i hc
    simp only [Option.some.injEq] at hs;obtain ⟨g1, g2⟩ := p_goods_take_drop ok ar (st.length - ar x) st hg
    have hgs : zJ ok ar s := by
     rw [← hs, xy];refine ⟨g1, ?_, trivial⟩
     exact ⟨hc.1, by rw [List.length_drop]; omega, g2⟩
    obtain ⟨r1, r2⟩ := ih s st' hgs h;refine ⟨r1, ?_⟩;rw [← r2, ← hs, zV];simp only [zq, xi, List.append_nil]
    have e1 : zq (st.take (st.length - ar x)) ++ zq (st.drop (st.length - ar x)) = zq st := by rw [← zV, List.take_append_drop]
    rw [← e1]
    simp
  · cases hs
theorem p_run_one (e : List Nd) (t : Tr) : xz ok ar [] e = some [t] ↔ p_good ok ar t ∧ e = xi t := by
 constructor
 · intro h
   obtain ⟨h1, h2⟩ := p_run_back ok ar e [] [t] trivial h
   exact ⟨h1.1, by simpa [zq] using h2⟩
 · rintro ⟨h1, rfl⟩
   simpa using p_run_flat ok ar t [] h1
section
def zL (b : List Nd → Option (Tr × List Nd)) : Nat → List Nd → List Tr → Option (List Tr × List Nd)
 | 0, r, acc => some (acc, r)
 | n + 1, r, acc => (b r).bind fun p => zL b n p.2 (p.1 :: acc)
def zQ : Nat → List Nd → Option (Tr × List Nd)
 | 0, _ => none
 | _ + 1, [] => none
 | k + 1, x :: r => if ok x = true then (zL (zQ k) (ar x) r []).map fun p => (.mk x p.1, p.2) else none
theorem p_kidsB_back {b : List Nd → Option (Tr × List Nd)} (hb : ∀ r t r', b r = some (t, r') → p_good ok ar t ∧ r = (xi t).reverse ++ r') : ∀ (n : Nat) (r : List Nd) (acc ks : List Tr) (r' : List Nd), zJ ok ar acc → zL b n r acc = some (ks, r') →
 zJ ok ar ks ∧ ks.length = acc.length + n ∧ ∃ new, ks = new ++ acc ∧ r = (zq new).reverse ++ r' := by
 intro n
 induction n with
 | zero =>
  intro r acc ks r' hg h;simp only [zL, Option.some.injEq, Prod.mk.injEq] at h;obtain ⟨rfl, rfl⟩ := h
  exact ⟨hg, rfl, [], rfl, by simp [zq]⟩
 | succ n ih =>
  intro r acc ks r' hg h;simp only [zL, Option.bind_eq_some_iff] at h;obtain ⟨⟨t, r1⟩, h1, h2⟩ := h;obtain ⟨g1, e1⟩ := hb r t r1 h1;obtain ⟨g2, l2, new, e2, e3⟩ := ih r1 (t :: acc) ks r' ⟨g1, hg⟩ h2;refine ⟨g2, by rw [l2, List.length_cons]; omega, new ++ [t], by rw [e2]; simp, ?_⟩;rw [e1, e3, zV]
  simp [zq]
theorem p_back_back : ∀ (k : Nat) (r : List Nd) (t : Tr) (r' : List Nd), zQ ok ar k r = some (t, r') → p_good ok ar t ∧ r = (xi t).reverse ++ r' := by
 intro k
 induction k with
 | zero => intro r t r' h; simp [zQ] at h
 | succ k ih =>
  intro r t r' h
  cases r with
  | nil => simp [zQ] at h
  | cons x r =>
   simp only [zQ] at h
   split at h
   · rename_i hx
     obtain ⟨⟨ks, r1⟩, h1, h2⟩ := Option.map_eq_some_iff.1 h;obtain ⟨g1, l1, new, e1, e2⟩ := p_kidsB_back ok ar ih (ar x) r [] ks r1 trivial h1;simp only [Prod.mk.injEq] at h2;obtain ⟨rfl, rfl⟩ := h2;refine ⟨⟨hx, by simpa using l1, g1⟩, ?_⟩;rw [List.append_nil] at e1;rw [e2, ← e1]
     simp [xi]
   · cases h
theorem p_kidsB_flats {b : List Nd → Option (Tr × List Nd)} (m : Nat) (hb : ∀ t r, p_good ok ar t → (xi t).length ≤ m → b ((xi t).reverse ++ r) = some (t, r)) : ∀ (new acc : List Tr) (r : List Nd), zJ ok ar new → (zq new).length ≤ m →
 zL b new.length ((zq new).reverse ++ r) acc = some (new ++ acc, r) := by
 intro new
 suffices H : ∀ (rev acc : List Tr) (r : List Nd), zJ ok ar rev.reverse → (zq rev.reverse).length ≤ m → zL b rev.length ((zq rev.reverse).reverse ++ r) acc = some (rev.reverse ++ acc, r) by
  intro acc r h1 h2;have := H new.reverse acc r (by simpa using h1) (by simpa using h2)
  simpa using this
 intro rev
 induction rev with
 | nil => intro acc r _ _; simp [zL, zq]
 | cons t rev ih =>
  intro acc r hg hl;rw [List.reverse_cons, xy] at hg;rw [List.reverse_cons, zV, List.length_append] at hl;simp only [zq, List.append_nil] at hl;rw [List.reverse_cons, zV, List.reverse_append, List.append_assoc];simp only [zq, List.append_nil, List.length_cons, zL];rw [hb t _ hg.2.1 (by omega)];simp only [Option.bind_some];rw [ih (t :: acc) r hg.1 (by omega)]
  simp
theorem p_back_flat : ∀ (k : Nat) (t : Tr) (r : List Nd), p_good ok ar t → (xi t).length ≤ k → zQ ok ar k ((xi t).reverse ++ r) = some (t, r) := by
 intro k
 induction k with
 | zero => intro t r _ h; have := p_flat_pos t; omega
 | succ k ih =>
  intro t r hg hl
  cases t with
  | mk x ks =>
   obtain ⟨h1, h2, h3⟩ := hg;simp only [xi, List.length_append, List.length_singleton] at hl;have e := p_kidsB_flats ok ar k (fun t r hg hl => ih t r hg hl) ks [] r h3 (by omega);simp only [xi, List.reverse_append, List.reverse_cons, List.reverse_nil, List.nil_append, List.cons_append, zQ];rw [if_pos h1, ← h2, e]
   simp
theorem p_both (e : List Nd) (t : Tr) (k : Nat) (hk : e.length ≤ k) : xz ok ar [] e = some [t] ↔ zQ ok ar k e.reverse = some (t, []) := by
 rw [p_run_one]
 constructor
 · rintro ⟨h1, rfl⟩
   simpa using p_back_flat ok ar k t [] h1 hk
 · intro h
   obtain ⟨h1, h2⟩ := p_back_back ok ar k _ t [] h;refine ⟨h1, ?_⟩;have := congrArg List.reverse h2
   simpa using this
end
end Post
def okP (x : Nd) : Bool := okNdB x && xa x && zb x.f0 x.f3 x.f1.toNat && decide (0 ≤ x.f1)
def arP (x : Nd) : Nat := x.f1.toNat
theorem okP_iff (x : Nd) : okP x = true ↔ okNd x ∧ xa x = true ∧ zb x.f0 x.f3 x.f1.toNat = true ∧ 0 ≤ x.f1 := by
 unfold okP;simp only [Bool.and_eq_true, okNdB_iff, decide_eq_true_eq, and_assoc]
theorem step_same (st : List Tr) (x : Nd) (h : okNd x) : xk st x = p_step okP arP st x := by
 unfold xk p_step arP
 by_cases c : okP x = true ∧ x.f1.toNat ≤ st.length
 · obtain ⟨h1, h2⟩ := c
   obtain ⟨_, a1, a2, a3⟩ := (okP_iff x).1 h1
   have hn : ¬ (x.f1 < 0 ∨ (st.length : Int) < x.f1 ∨ xa x = false) := by
    rintro (h | h | h)
    · omega
    · omega
    · rw [a1] at h; cases h
   rw [if_neg hn, if_pos a2, if_pos ⟨h1, h2⟩]
 · rw [if_neg c]
   by_cases c1 : x.f1 < 0 ∨ (st.length : Int) < x.f1 ∨ xa x = false
   · rw [if_pos c1]
   · rw [if_neg c1]
     by_cases c2 : zb x.f0 x.f3 x.f1.toNat = true
     · exfalso
       have hh : xa x = true := by
        cases hb : xa x with
        | true => rfl
        | false => exact absurd (.inr (.inr hb)) c1
       exact c ⟨(okP_iff x).2 ⟨h, hh, c2, by omega⟩, by omega⟩
     · rw [if_neg c2]
theorem run_same : ∀ (xs : List Nd) (st : List Tr), (∀ x ∈ xs, okNd x) → runP st xs = xz okP arP st xs
 | [], st, _ => rfl
 | x :: xs, st, h => by
  simp only [runP, xz];rw [step_same st x (h x (by simp))]
  cases p_step okP arP st x with
  | none => rfl
  | some s => exact run_same xs s (fun y hy => h y (by simp [hy]))
theorem grown_iff (xs : List Nd) (h : ∀ x ∈ xs, okNd x) (t : Tr) : zH xs = some t ↔ xz okP arP [] xs = some [t] := by
 unfold zH;rw [run_same xs [] h]
 constructor
 · intro h1
   split at h1
   · rename_i t2 h2; injection h1 with h1; rw [h2, h1]
   · cases h1
 · intro h1
   rw [h1]
mutual
theorem good_gd : ∀ t : Tr, p_good okP arP t → gdT t = true
 | ⟨x, ks⟩, h => by
  obtain ⟨h1, h2, h3⟩ := h;obtain ⟨a0, a1, a2, a3⟩ := (okP_iff x).1 h1;unfold arP at h2
  exact (gdT_iff x ks).2 ⟨(ve x _).2 ⟨a0, a1, by rw [h2]; exact a2⟩, goods_gd ks h3⟩
theorem goods_gd : ∀ ks : List Tr, zJ okP arP ks → gdTs ks = true
 | [], _ => rfl
 | t :: ts, h => by
  simp only [gdTs, Bool.and_eq_true]
  exact ⟨good_gd t h.1, goods_gd ts h.2⟩
end
theorem grown_gd {xs : List Nd} {t : Tr} (h : ∀ x ∈ xs, okNd x) (hg : zH xs = some t) : gdT t = true :=
 good_gd t ((p_run_one okP arP xs t).1 ((grown_iff xs h t).1 hg)).1
abbrev CutR := Int × Int × Int × ByteArray × List Tr × Int × Bool
def encR : Option (Tr × List Nd) → CutR
 | some (t, r) => (t.f0.f0, t.f0.f1, t.f0.f2, t.f0.f3, t.f1, (r.length : Int) - 1, true)
 | none => (0, 0, 0, ⟨#[]⟩, [], 0, false)
def encK (x : Nd) : Option (List Tr × List Nd) → CutR
 | some (ks, r) => (x.f0, x.f1, x.f2, x.f3, ks, (r.length : Int) - 1, true)
 | none => (0, 0, 0, ⟨#[]⟩, [], 0, false)
theorem arity_neg (op f2 : Int) (s : ByteArray) (n : Int) (hn : n < 0) : qw.f 3 op n f2 s = some false := by
 have e0 : (n == 0) = false := by simp; omega
 have e1 : (n == 1) = false := by simp; omega
 have e2 : (n == 2) = false := by simp; omega
 have e3 : (n == 3) = false := by simp; omega
 have hc : op = 1 ∨ op = 2 ∨ op = 3 ∨ op = 4 ∨ op = 5 ∨ op = 6 ∨ op = 7 ∨ op = 8 ∨ op = 9 ∨ op = 10 ∨ op = 26 ∨ op = 27 ∨ op = 28 ∨ op = 29 ∨ (op < 1 ∨ 11 ≤ op ∧ op ≤ 25 ∨ 29 < op) := by omega
 have n1 : ¬ 1 ≤ n := by omega
 have n2 : ¬ 2 ≤ n := by omega
 have n3 : ¬ 3 ≤ n := by omega
 rcases hc with rfl | rfl | rfl | rfl | rfl | rfl | rfl | rfl | rfl | rfl | rfl | rfl | rfl | rfl | hc
 all_goals try (simp [qw.f, qw.j0, qw.j1, e0, e1, e2, e3, n1, n2, n3, qz.f, qz.j0]; done)
theorem ok_ref (x : Nd) (h : okNd x) : qw.f 3 x.f0 x.f1 x.f2 x.f3 = some (zb x.f0 x.f3 x.f1.toNat && decide (0 ≤ x.f1)) := by
 by_cases hn : x.f1 < 0
 · rw [arity_neg _ _ _ _ hn, decide_eq_false (by omega), Bool.and_false]
 · have e : x.f1 = ((x.f1.toNat : Nat) : Int) := by omega
   rw [decide_eq_true (by omega), Bool.and_true]
   conv => lhs; rw [e]
   exact arity_ref x.f0 x.f2 x.f3 x.f1.toNat
def RV (l : List Nd) (m : Nat) : List Nd := (l.take m).reverse
theorem RV_len (l : List Nd) (m : Nat) (h : m ≤ l.length) : (RV l m).length = m := by unfold RV; rw [List.length_reverse, List.length_take]; omega
theorem RV_succ (l : List Nd) (m : Nat) (h : m < l.length) : RV l (m + 1) = l[m] :: RV l m := by
 unfold RV;rw [List.take_succ_eq_append_getElem h, List.reverse_append]
 rfl
theorem RV_cut (l : List Nd) (m : Nat) (h : m ≤ l.length) (a b : List Nd) (e : RV l m = a ++ b) : b = RV l b.length ∧ b.length ≤ m := by
 have hl := RV_len l m h;have e2 := congrArg List.reverse e;unfold RV at e2;rw [List.reverse_reverse, List.reverse_append] at e2
 have hb : b.length ≤ m := by rw [e, List.length_append] at hl; omega
 refine ⟨?_, hb⟩;unfold RV
 have e3 : l.take b.length = (l.take m).take b.length := by rw [List.take_take, Nat.min_eq_left hb]
 rw [e3, e2, List.take_left' (by simp), List.reverse_reverse]
theorem cut_fail (k : Nat) (l : List Nd) (a : Int) : qy.j0 (k + 1) l a true = some (encR none) := by
 rw [qy.j0, if_pos rfl]
 rfl
theorem cut_ref (l : List Nd) (hl : l.length ≤ 1000000) (hok : ∀ x ∈ l, okNd x) : ∀ (M m : Nat), m < M → m ≤ l.length → Ev (fun k => qy.f k l ((m : Int) - 1)) (encR (zQ okP arP M (RV l m))) := by
 intro M
 induction M with
 | zero => intro m h; omega
 | succ M ih =>
  intro m hm hml
  cases m with
  | zero =>
   have e : zQ okP arP (M + 1) (RV l 0) = none := rfl;rw [e];refine Ev.step (f := fun k => qy.j0 k l (((0 : Nat) : Int) - 1) true) (fun k => ?_) (Ev.step (f := fun _ => some (encR none)) (fun k => cut_fail k l _) (Ev.now _));show qy.f (k + 1) l (((0 : Nat) : Int) - 1) = _;rw [qy.f, if_pos (by omega)]
  | succ q =>
   have hq : q < l.length := by omega
   rw [RV_succ l q hq];have hx := hok l[q] (List.getElem_mem hq);have hr : qv l (q : Int) = l[q] := rdN_lt l q hq
   have ha : ((q + 1 : Nat) : Int) - 1 = (q : Int) := by omega
   rw [ha];have hmem : l[q] ∈ l := List.getElem_mem hq;generalize l[q] = x at *
   have hA : ∀ k, 3 ≤ k → qw.f k x.f0 x.f1 x.f2 x.f3 = some (zb x.f0 x.f3 x.f1.toNat && decide (0 ≤ x.f1)) := fun k hk =>
    xQ (g := fun k => qw.f k x.f0 x.f1 x.f2 x.f3) (fun k => qw.mono _ _ _ _ k) hk (ok_ref x hx)
   have hP : ∀ k, 3 ≤ k → qE.f k x.f0 x.f1 x.f2 x.f3 = some (xa x) := fun k hk =>
    xQ (g := fun k => qE.f k x.f0 x.f1 x.f2 x.f3) (fun k => qE.mono _ _ _ _ k) (by omega : 1 ≤ k) (name_ref x)
   have hj : ∀ v, Ev (fun k => qy.j0 k l (q : Int) (!(okP x))) v → Ev (fun k => qy.f k l (q : Int)) v := by
    intro v e;refine xd ⟨3, fun k hk => ?_⟩ e;show qy.f (k + 1) l (q : Int) = _;rw [qy.f, if_neg (by omega), if_pos (by omega), if_pos (by omega), hr, hA k hk, Option.bind_some];have hb := (okNdB_iff x).2 hx;unfold okP;rw [hb, Bool.true_and]
    cases h1 : (zb x.f0 x.f3 x.f1.toNat && decide (0 ≤ x.f1)) with
    | true =>
     rw [if_pos rfl, hP k hk, Option.bind_some, Bool.and_assoc, h1, Bool.and_true]
    | false =>
     rw [if_neg (by decide), Bool.and_assoc, h1, Bool.and_false]
     rfl
   refine hj _ ?_
   have hback : zQ okP arP (M + 1) (x :: RV l q) = if okP x = true then (zL (zQ okP arP M) (arP x) (RV l q) []).map fun p => (⟨x, p.1⟩, p.2) else none := rfl
   rw [hback]
   by_cases hk : okP x = true
   · rw [if_pos hk, hk]
     obtain ⟨a0, a1, a2, a3⟩ := (okP_iff x).1 hk;have hnum := (xD a2).1
     have hloop : ∀ (c m : Nat) (L acc : List Tr), m ≤ q → L.length = x.f1.toNat → c ≤ L.length → acc = L.drop c →
      Ev (fun k => qy.l0 k l ((m : Int) - 1) ((c : Int) - 1) x.f0 x.f1 x.f2 x.f3 L) (encK x (zL (zQ okP arP M) c (RV l m) acc)) := by
      intro c
      induction c with
      | zero =>
       intro m L acc hmq hL hc hacc;refine Ev.step (f := fun _ => some (encK x (zL (zQ okP arP M) 0 (RV l m) acc))) (fun k => ?_) (Ev.now _);show qy.l0 (k + 1) l ((m : Int) - 1) (((0 : Nat) : Int) - 1) x.f0 x.f1 x.f2 x.f3 L = _;rw [qy.l0, if_neg (by omega)];simp only [zL, encK];rw [RV_len l m (by omega), hacc, List.drop_zero]
      | succ c ihc =>
       intro m L acc hmq hL hc hacc;have e1 := ih m (by omega) (by omega);simp only [zL]
       cases hb : zQ okP arP M (RV l m) with
       | none =>
        rw [hb] at e1;obtain ⟨K, e1⟩ := e1;refine xd (f := fun _ => some (encK x none)) ⟨K, fun k ab => ?_⟩ (Ev.now _);have e1 := e1 k ab
        dsimp only at e1
        show qy.l0 (k + 1) l ((m : Int) - 1) (((c + 1 : Nat) : Int) - 1) x.f0 x.f1 x.f2 x.f3 L = _;rw [qy.l0, if_pos (by omega), e1, Option.bind_some]
        rfl
       | some p =>
        obtain ⟨t, r⟩ := p;rw [hb] at e1;obtain ⟨hgd, hflat⟩ := p_back_back okP arP M _ t r hb;obtain ⟨ae, aj⟩ := RV_cut l m (by omega) _ _ hflat;obtain ⟨K, e1⟩ := e1
        have e2 := ihc r.length (L.set c t) (t :: acc) (by omega) (by rw [List.length_set]; exact hL) (by rw [List.length_set]; omega) (by
         have hd := List.drop_eq_getElem_cons (l := L.set c t) (i := c) (by rw [List.length_set]; omega)
         rw [hd, List.getElem_set_self, List.drop_set_of_lt (by omega), hacc])
        rw [← ae] at e2;simp only [Option.bind_some];refine xd ⟨K, fun k ab => ?_⟩ e2;have e1 := e1 k ab
        dsimp only at e1
        have ew : wrap64 (((c + 1 : Nat) : Int) - 1 - 1) = (c : Int) - 1 := by rw [zD (by omega) (by omega)]; omega
        show qy.l0 (k + 1) l ((m : Int) - 1) (((c + 1 : Nat) : Int) - 1) x.f0 x.f1 x.f2 x.f3 L = _;rw [qy.l0, if_pos (by omega), e1, Option.bind_some];simp only [encR, if_true];rw [if_pos (by omega), if_pos (by omega), ew]
        have ec : (((c + 1 : Nat) : Int) - 1).toNat = c := by omega
        rw [ec]
        cases t
        rfl
     have e := hloop x.f1.toNat q (List.replicate x.f1.toNat z37) [] (by omega) (by simp) (by simp) (by simp)
     have henc : encR ((zL (zQ okP arP M) (arP x) (RV l q) []).map fun p => (⟨x, p.1⟩, p.2)) = encK x (zL (zQ okP arP M) x.f1.toNat (RV l q) []) := by
      show encR ((zL (zQ okP arP M) x.f1.toNat (RV l q) []).map fun p => (⟨x, p.1⟩, p.2)) = _
      cases zL (zQ okP arP M) x.f1.toNat (RV l q) [] with
      | none => rfl
      | some p => rfl
     rw [henc];refine Ev.step (fun k => ?_) e
     have e0 : ((x.f1.toNat : Nat) : Int) = x.f1 := by omega
     show qy.j0 (k + 1) l (q : Int) false = _;rw [qy.j0, if_neg (by decide), if_pos (by omega), if_pos (by omega), hr, if_pos a3, if_pos (by omega), zD (by omega) (by omega), zD (by omega) (by unfold okNd at hx; omega), e0]
   · have ab : okP x = false := by simpa using hk
     rw [if_neg hk, ab]
     exact Ev.step (f := fun _ => some (encR none)) (fun k => cut_fail k l _) (Ev.now _)
theorem ofExpr_ref (l : List Nd) (hl : l.length ≤ 1000000) (hok : ∀ x ∈ l, okNd x) :
 (∃ t, zH l = some t ∧ Ev (fun k => z6.f k l) (t.f0.f0, t.f0.f1, t.f0.f2, t.f0.f3, t.f1, true)) ∨ (zH l = none ∧ ∃ a b c d ks, Ev (fun k => z6.f k l) (a, b, c, d, ks, false)) := by
 have hfull : RV l l.length = l.reverse := by unfold RV; rw [List.take_length]
 obtain ⟨K, e⟩ := cut_ref l hl hok (l.length + 1) l.length (by omega) (Nat.le_refl _);rw [hfull] at e
 have hboth := fun t => p_both okP arP l t (l.length + 1) (by omega)
 have hunf : ∀ k, K ≤ k → z6.f k l = (some (encR (zQ okP arP (l.length + 1) l.reverse))).bind fun aa => (if aa.2.2.2.2.2.2 = true then (some (aa.1, aa.2.1, aa.2.2.1, aa.2.2.2.1, aa.2.2.2.2.1, (aa.2.2.2.2.2.1 == (-1)))) else (some (aa.1, aa.2.1, aa.2.2.1, aa.2.2.2.1, aa.2.2.2.2.1, false))) := by
  intro k hk;unfold z6.f;have e := e k hk
  dsimp only at e
  rw [zD (by omega) (by omega), e]
 cases hb : zQ okP arP (l.length + 1) l.reverse with
 | none =>
  refine .inr ⟨?_, 0, 0, 0, ⟨#[]⟩, [], K, fun k hk => ?_⟩
  · cases hg : zH l with
    | none => rfl
    | some t =>
     have := (hboth t).1 ((grown_iff l hok t).1 hg);rw [hb] at this
     cases this
  · show z6.f k l = _
    rw [hunf k hk, hb]
    rfl
 | some p =>
  obtain ⟨t, r⟩ := p
  by_cases hr : r = []
  · subst hr
    have hg := (grown_iff l hok t).2 ((hboth t).2 hb);refine .inl ⟨t, hg, K, fun k hk => ?_⟩;show z6.f k l = _;rw [hunf k hk, hb]
    rfl
  · refine .inr ⟨?_, t.f0.f0, t.f0.f1, t.f0.f2, t.f0.f3, t.f1, K, fun k hk => ?_⟩
    · cases hg : zH l with
      | none => rfl
      | some t2 =>
       have := (hboth t2).1 ((grown_iff l hok t2).1 hg);rw [hb] at this
       injection this with this
       injection this with _ this
       exact absurd this hr
    · have ac : 0 < r.length := List.length_pos_iff.2 hr
      show z6.f k l = _;rw [hunf k hk, hb];simp only [encR, Option.bind_some, if_true]
      have : (((r.length : Int) - 1) == -1) = false := by simp; omega
      rw [this]
theorem dep_opd (t : Tr) : opdD 1 t (dep t) = dep t ∧ opd 1 t (shw t).1 = (shw t).1 := by
 have := lev_one t;unfold opdD opd
 exact ⟨if_neg (by omega), if_neg (by omega)⟩
theorem print_same (l : List Nd) (h : okIn l = true) : Ev (fun k => qR.f k l) (⟨(zU l).1.toArray⟩, (zU l).2) := by
 obtain ⟨hl, hw, hok⟩ := (okIn_iff l).1 h
 rcases ofExpr_ref l hl hok with ⟨t, hg, K1, e1⟩ | ⟨hg, a, b, c, d, ks, K1, e1⟩
 · have hk := grown_keeps hg
   have hwt := grown_wt hg;have hgd := grown_gd hok hg;have hdo := dep_opd t;obtain ⟨K2, e2⟩ := deep_ref (zK t) t (Nat.le_refl _) (by omega) hgd 0
   have hz : opdD 0 t (dep t) = dep t := by
    have := lev_one t;unfold opdD
    exact if_neg (by omega)
   rw [hz] at e2
   have hP : zU l = if (dep t : Int) ≤ 32 then ((shw t).1, 0) else ([], 159) := by
    unfold zU xS;rw [hg];simp only [hdo.1, hdo.2, decide_eq_true_eq]
   refine ⟨max K1 K2, fun k ac => ?_⟩;have e1 := e1 k (by omega);have e2 := e2 k (by omega)
   dsimp only at e1 e2
   show qR.f k l = _;unfold qR.f;rw [e1, Option.bind_some, if_pos rfl]
   dsimp only
   rw [e2, Option.bind_some, hP]
   by_cases hd : (dep t : Int) ≤ 32
   · rw [if_pos hd, if_neg (by omega)]
     have hs : zj.f t.f0.f0 t.f0.f1 t.f0.f2 t.f0.f3 t.f1 = some (str (shw t).1) := by
      unfold zj.f showN
      cases t with
      | mk x kk => exact if_pos ⟨hgd, by show wtT ⟨x, kk⟩ ≤ _; omega⟩
     rw [hs]
     rfl
   · rw [if_neg hd, if_pos (by omega)]
 · have hP : zU l = ([], 159) := by
    unfold zU xS;rw [hg]
    rfl
   refine ⟨K1, fun k ac => ?_⟩;have e1 := e1 k ac
   dsimp only at e1
   show qR.f k l = _;unfold qR.f;rw [e1, Option.bind_some, if_neg (show ¬ (false = true) by decide), hP]
def szL : List Nd → Nat
 | [] => 0
 | x :: r => x.f3.size + szL r
structure InvE (n : Nat) (l : List Nd) : Prop where
 len : l.length = n
 few : n ≤ 1000000
 sz : szL l ≤ 1000000000
 ok : ∀ x ∈ l, okNd x
theorem wt_sz : ∀ l : List Nd, (∀ x ∈ l, okNd x) → wtL l ≤ 2 * szL l + 91 * l.length
 | [], _ => by simp [wtL, szL]
 | x :: r, h => by
  have h1 := wt_sz r (fun y hy => h y (by simp [hy]));have h2 := h x (by simp);have h3 := Lib.itoa_length_le x.f2 h2.2.2.1 h2.2.2.2.1;simp only [wtL, szL, wt, List.length_cons]
  omega
theorem InvE.okIn {n : Nat} {l : List Nd} (h : InvE n l) : okIn l = true := by
 have h1 := wt_sz l h.ok;have h2 := h.len;have h3 := h.few;have h4 := h.sz
 exact (okIn_iff l).2 ⟨by omega, by omega, h.ok⟩
theorem sz_set : ∀ (l : List Nd) (i : Nat) (y : Nd) (hi : i < l.length), y.f3.size ≤ l[i].f3.size → szL (l.set i y) ≤ szL l
 | x :: r, 0, y, _, h => by
  simp only [List.getElem_cons_zero] at h;simp only [List.set_cons_zero, szL]
  omega
 | x :: r, i + 1, y, hi, h => by
  have := sz_set r i y (by simpa using hi) (by simpa using h);simp only [List.set_cons_succ, szL]
  omega
theorem InvE.set {n : Nat} {l : List Nd} (h : InvE n l) (i : Nat) (hi : i < n) (y : Nd) (hy : okNd y) (hs : y.f3.size ≤ (qv l (i : Int)).f3.size) : InvE n (l.set i y) := by
 have aa : i < l.length := by rw [h.len]; exact hi
 rw [rdN_lt l i aa] at hs;refine ⟨by rw [List.length_set]; exact h.len, h.few, Nat.le_trans (sz_set l i y aa hs) h.sz, fun x hx => ?_⟩
 rcases List.mem_or_eq_of_mem_set hx with hx | rfl
 · exact h.ok x hx
 · exact hy
theorem InvE.at {n : Nat} {l : List Nd} (h : InvE n l) (i : Nat) (hi : i < n) : okNd (qv l (i : Int)) := by
 have aa : i < l.length := by rw [h.len]; exact hi
 rw [rdN_lt l i aa]
 exact h.ok _ (List.getElem_mem aa)
def m1 (l : List Nd) (i : Nat) : List Nd := if (qv l (i : Int)).f0 = 1 then l.set i ⟨(qv l (i : Int)).f0, (qv l (i : Int)).f1, wrap64 (Int.tdiv ((qv l (i : Int)).f2) 2), (qv l (i : Int)).f3⟩ else l
def m2 (l : List Nd) (i : Nat) : List Nd := if (qv l (i : Int)).f0 = 11 then l.set i ⟨12, (qv l (i : Int)).f1, (qv l (i : Int)).f2, (qv l (i : Int)).f3⟩ else l
def m3 (l : List Nd) (i : Nat) : List Nd := if (qv l (i : Int)).f0 = 6 then l.set i ⟨3, 0, 0, ⟨#[]⟩⟩ else l
theorem half_in {n : Int} (h0 : -9223372036854775808 ≤ n) (h1 : n ≤ 9223372036854775807) : -9223372036854775808 ≤ Int.tdiv n 2 ∧ Int.tdiv n 2 ≤ 9223372036854775807 := by
 by_cases h : 0 ≤ n
 · rw [Int.tdiv_eq_ediv_of_nonneg h]; omega
 · obtain ⟨m, rfl⟩ : ∃ m, n = -m := ⟨-n, by omega⟩
   rw [Int.neg_tdiv, Int.tdiv_eq_ediv_of_nonneg (by omega)]; omega
theorem m1_inv {n : Nat} {l : List Nd} (h : InvE n l) (i : Nat) (hi : i < n) : InvE n (m1 l i) := by
 unfold m1
 by_cases c : (qv l (i : Int)).f0 = 1
 · rw [if_pos c]
   have ha := h.at i hi;refine h.set i hi _ ?_ (Nat.le_refl _);obtain ⟨a1, a2, a3, a4, a5⟩ := ha;have ht : -9223372036854775808 ≤ Int.tdiv ((qv l (i : Int)).f2) 2 ∧ Int.tdiv ((qv l (i : Int)).f2) 2 ≤ 9223372036854775807 := half_in a3 a4;refine ⟨a1, a2, ?_, ?_, a5⟩
   · dsimp only; rw [zD ht.1 ht.2]; exact ht.1
   · dsimp only; rw [zD ht.1 ht.2]; exact ht.2
 · rw [if_neg c]; exact h
theorem m2_inv {n : Nat} {l : List Nd} (h : InvE n l) (i : Nat) (hi : i < n) : InvE n (m2 l i) := by
 unfold m2
 by_cases c : (qv l (i : Int)).f0 = 11
 · rw [if_pos c]
   exact h.set i hi _ (h.at i hi) (Nat.le_refl _)
 · rw [if_neg c]; exact h
theorem m3_inv {n : Nat} {l : List Nd} (h : InvE n l) (i : Nat) (hi : i < n) : InvE n (m3 l i) := by
 unfold m3
 by_cases c : (qv l (i : Int)).f0 = 6
 · rw [if_pos c]
   refine h.set i hi _ ⟨by dsimp only; omega, by dsimp only; omega, by dsimp only; omega, by dsimp only; omega, by show (0 : Nat) ≤ _; omega⟩ (by show (0 : Nat) ≤ _; omega)
 · rw [if_neg c]; exact h
theorem same_ref (l : List Nd) (hl : l.length ≤ 1000000) : ∀ (m i : Nat), l.length - i < m → i ≤ l.length → Ev (fun k => qJ.l0 k l l (i : Int)) true := by
 intro m
 induction m with
 | zero => intro i h; omega
 | succ m ih =>
  intro i hm hi
  by_cases hlt : i < l.length
  · refine xd ⟨0, fun k _ => ?_⟩ (ih (i + 1) (by omega) (by omega))
    have ew : wrap64 ((i : Int) + 1) = ((i + 1 : Nat) : Int) := by rw [zD (by omega) (by omega)]; omega
    show qJ.l0 (k + 1) l l (i : Int) = _;rw [qJ.l0, if_pos (by omega), if_pos (by omega), if_pos (by omega), if_neg (by simp), ew]
  · refine xd (f := fun _ => some true) ⟨0, fun k _ => ?_⟩ (Ev.now _)
    show qJ.l0 (k + 1) l l (i : Int) = _;rw [qJ.l0, if_neg (by omega)]
theorem l0_next (k i : Nat) (l : List Nd) (hi : i < l.length) : qi.l0 (k + 1) l (i : Int) = qi.j2 k (m1 l i) (i : Int) := by
 rw [qi.l0, if_pos (by omega), if_pos (by omega)];unfold m1
 by_cases c : (qv l (i : Int)).f0 = 1
 · rw [if_pos c, if_pos c]; rfl
 · rw [if_neg c, if_neg c]
theorem j2_next (k i : Nat) (l : List Nd) (hi : i < l.length) (hl : l.length ≤ 1000000) : qi.j2 (k + 1) l (i : Int) = qi.l0 k (m3 (m2 l i) i) ((i + 1 : Nat) : Int) := by
 have ew : wrap64 ((i : Int) + 1) = ((i + 1 : Nat) : Int) := by rw [zD (by omega) (by omega)]; omega
 rw [qi.j2, if_pos (by omega), if_pos (by omega), ew];unfold m2
 by_cases c : (qv l (i : Int)).f0 = 11
 · rw [if_pos c, if_pos c, Option.bind_some]
   unfold m3
   by_cases c2 : (qv (l.set i ⟨12, (qv l (i : Int)).f1, (qv l (i : Int)).f2, (qv l (i : Int)).f3⟩) (i : Int)).f0 = 6
   · rw [if_pos c2, if_pos (by exact c2)]; rfl
   · rw [if_neg c2, if_neg (by exact c2)]; rfl
 · rw [if_neg c, if_neg c]
   unfold m3
   by_cases c2 : (qv l (i : Int)).f0 = 6
   · rw [if_pos c2, if_pos c2]; rfl
   · rw [if_neg c2, if_neg c2]
theorem last_ref (l : List Nd) (h : okIn l = true) : ∃ K, ∀ k, K ≤ k → qi.l0 (k + 1) l ((l.length : Nat) : Int) = some true := by
 obtain ⟨K, e⟩ := print_same l h;have hl := ((okIn_iff l).1 h).1;refine ⟨K, fun k hk => ?_⟩;have e := e k hk
 dsimp only at e
 have ht : zd.f l = some (⟨(zU l).1.toArray⟩, (zU l).2) := by unfold zd.f; exact if_pos h
 rw [qi.l0, if_neg (by omega), ht, Option.bind_some, Option.bind_some, if_pos (by simp only [List.length_nil]; omega), List.nil_append, e, Option.bind_some, if_pos rfl]
 simp
theorem loop_ref (n : Nat) : ∀ (m i : Nat) (l : List Nd), n - i < m → i ≤ n → InvE n l → Ev (fun k => qi.l0 k l (i : Int)) true := by
 intro m
 induction m with
 | zero => intro i l h; omega
 | succ m ih =>
  intro i l hm hi h;have hl := h.len;have hf := h.few
  by_cases hlt : i < n
  · have h1 := m1_inv h i hlt
    have h2 := m2_inv h1 i hlt;have h3 := m3_inv h2 i hlt;have e := ih (i + 1) _ (by omega) (by omega) h3;refine xd ⟨0, fun k _ => l0_next k i l (by omega)⟩ (xd ⟨0, fun k _ => ?_⟩ e)
    exact j2_next k i (m1 l i) (by rw [h1.len]; exact hlt) (by rw [h1.len]; exact hf)
  · obtain rfl : i = n := by omega
    obtain ⟨K, e⟩ := last_ref l h.okIn;rw [hl] at e
    exact xd (f := fun _ => some true) ⟨K, fun k hk => e k hk⟩ (Ev.now _)
theorem law_true (l : List Nd) (h : InvE l.length l) : Ev (fun k => qi.f k l) true := by
 obtain ⟨K1, e1⟩ := print_same l h.okIn;obtain ⟨K2, e2⟩ := same_ref l h.few (l.length + 1) 0 (by omega) (by omega);obtain ⟨K3, e3⟩ := loop_ref l.length (l.length + 1) 0 l (by omega) (by omega) h;have hl := h.few;refine ⟨max K1 (max K2 K3) + 1, fun k hk => ?_⟩;obtain ⟨q, rfl⟩ : ∃ q, k = q + 1 := ⟨k - 1, by omega⟩;have e1 := e1 (q + 1) (by omega);have e2 : qJ.l0 (q + 1) l l 0 = some true := e2 (q + 1) (by omega);have e3 : qi.l0 q l 0 = some true := e3 q (by omega)
 dsimp only at e1
 have ht : zd.f l = some (⟨(zU l).1.toArray⟩, (zU l).2) := by unfold zd.f; exact if_pos h.okIn
 show qi.f (q + 1) l = _;unfold qi.f;rw [Option.bind_some, if_pos (by simp only [List.length_nil]; omega), List.nil_append, Option.bind_some, ht, Option.bind_some, e1, Option.bind_some, if_pos rfl, if_pos rfl]
 have hs : qJ.f (q + 1) l l = some true := by
  unfold qJ.f;rw [if_pos rfl, e2]
 rw [hs, Option.bind_some, qi.j0, if_neg (by decide), e3]
end Go.Proofs.YtfmgbgkcmmpcfaaDoor.PTx

