import Derived.Test.YtfmgbgkcmmpcfaaDoorYPTxx0
import Derived.Test.YtfmgbgkcmmpcfaaDoorYPTxx3
import Derived.Test.YtfmgbgkcmmpcfaaDoorYPTxx4
import Derived.Test.YtfmgbgkcmmpcfaaDoorYPTxx5
import Derived.Test.YtfmgbgkcmmpcfaaDoorYPTxx6
namespace Go.Proofs.YtfmgbgkcmmpcfaaDoor.PTx
open Go.RowKit Go.Proofs.YtfmgbgkcmmpcfaaDoorW.PrintWords Go.Proofs.YtfmgbgkcmmpcfaaDoorW.PrintLast Go.Proofs.YtfmgbgkcmmpcfaaDoorW.PrintMore
attribute [local go_sem] zu zC
set_option linter.unusedVariables false
set_option linter.unusedSimpArgs false
theorem isw_new (w : World) : IsW w.heap.size w.heap.size [] 0 0 (w.alloc (.cells #[.pointer none, .slice none 0 0, .int .i64 0, .int .i64 0] 51)) :=
 .inl ⟨Nat.le_refl _, .slice none 0 0, qZ w _, ⟨rfl, .inl ⟨rfl, rfl⟩⟩, by simp [Value.ownBlock]⟩
theorem pw_new (w : World) : PW w w.heap.size [] 0 0 (w.alloc (.cells #[.pointer none, .slice none 0 0, .int .i64 0, .int .i64 0] 51)) :=
 ⟨isw_new w, qa (Below.refl _ _) _⟩
structure Small (t : Tr) : Prop where
 len : (opd 1 t (shw t).1).length ≤ 140737488355328
 dp : opdD 1 t (dep t) ≤ 1000000000
 nds : zK t ≤ 1000000000
 ne : opd 1 t (shw t).1 ≠ []
def xS (xs : List Nd) : List UInt8 × Bool := match zH xs with
 | none => ([], false)
 | some t => (opd 1 t (shw t).1, decide ((opdD 1 t (dep t) : Int) ≤ 32))
set_option maxHeartbeats 4000000 in
set_option maxRecDepth 100000 in
theorem shown_calls (w : World) (A : Option Addr) (n c : Nat) (xs : List Nd) (hC : Kd.C k31 w A n xs) (hok : ∀ x ∈ xs, okNd x) (hn : n ≤ 1000000) (hG : GT w) (hS : ∀ t, zH xs = some t → Small t) :
 Calls Tryd.prog 7 #[.slice A n c] w fun e w' => e = .returned (.tuple #[.string ⟨(xS xs).1.toArray⟩, .bool (xS xs).2]) ∧ Below w.heap.size w w' := by
 have HGR := Aside0.mk (grown_calls w A n c xs hC hok hn hG)
 cases hgr : zH xs with
 | none =>
  have e1 : xS xs = ([], false) := by unfold xS; rw [hgr]
  rw [e1]
  have hgc : Calls Tryd.prog 11 #[.slice A n c] w fun e w' => e = .returned .nilIface ∧ Below w.heap.size w w' := HGR.out.mono (by
   rintro e w' ⟨hb, ⟨_, rfl⟩ | ⟨t, v, h, _⟩⟩
   · exact ⟨rfl, hb⟩
   · rw [hgr] at h; cases h)
  have HGC := Aside0.mk hgc;clear hgc hC hok hG hS hgr e1
  go_enter Tryd.func7, Tryd.ntmps7
  go_wp2_with (first | (go_at_call 11; go_must (refine HGC.out.mono ?_; rintro e w1 ⟨rfl, hb⟩; have HB := Aside0.mk hb; clear hb)))
  go_ret2
  exact ⟨rfl, HB.out⟩
 | some t =>
  have hs := hS t hgr
  have e1 : xS xs = (opd 1 t (shw t).1, decide ((opdD 1 t (dep t) : Int) ≤ 32)) := by unfold xS; rw [hgr]
  rw [e1]
  have hgc : Calls Tryd.prog 11 #[.slice A n c] w fun e w' => ∃ T u, e = .returned (.iface T u) ∧ Below w.heap.size w w' ∧ IsT w' (.iface T u) t := HGR.out.mono (by
   rintro e w' ⟨hb, ⟨h, rfl⟩ | ⟨t2, v, h, rfl, hI⟩⟩
   · rw [hgr] at h; cases h
   · rw [hgr] at h
     injection h with h
     subst h;obtain ⟨T, u, rfl⟩ := zG hI
     exact ⟨T, u, rfl, hb, hI⟩)
  have HGC := Aside0.mk hgc;have HS := Aside0.mk hs;clear hgc hC hok hG hS hgr e1 hs
  go_enter Tryd.func7, Tryd.ntmps7
  go_upto_region 5 with (first | (go_at_call 11; go_must (refine HGC.out.mono ?_; rintro e w1 ⟨T, u, rfl, hb, hI⟩; have HB := Aside0.mk hb; have HI := Aside0.mk hI; clear hb hI)))
  have HT := Aside0.mk (tree_of_bare w1 _ t rfl (has_level HI.out) (bare_ok w1 (zK t) _ t (Nat.le_refl _) HS.out.nds HI.out));have HW := Aside0.mk (pw_new w1);have HF : Aside0 (Fits [] 0 0 (opd 1 t (shw t).1) (opdD 1 t (dep t))) := ⟨⟨by have := HS.out.len; simpa using this, by omega, by have := HS.out.dp; omega, by omega, by omega⟩⟩;have HBS := Aside0.mk (HB.out.size)
  go_upto_region 6 with (first | (go_at_call 12; go_must (refine (HT.out _ w1.heap.size [] 0 0 1 HW.out HF.out).mono ?_; rintro e w2 ⟨rfl, ho⟩; have HP := Aside0.mk ho; clear ho)))
  have em : max (0 : Int) (0 + (opdD 1 t (dep t) : Int)) = (opdD 1 t (dep t) : Int) := by omega
  rw [em, List.nil_append] at HP;clear em
  have hdb : (opdD 1 t (dep t) : Int) ≤ 1000000000 := by have := HS.out.dp; omega
  have HST := Aside0.mk (fun (W : World) (hb : Below w2.heap.size w2 W) => wstring_calls w1.heap.size w1.heap.size (opd 1 t (shw t).1) 0 (opdD 1 t (dep t) : Int) W (HP.out.ps.wr.below hb) HS.out.ne);have c3 : w2.cell? ⟨w1.heap.size, 3, none⟩ = some (.int .i64 (opdD 1 t (dep t) : Int)) := HP.out.ps.wr.facts.c3;have ac := Aside0.mk (HP.out.ps.be)
  go_region_with (first
   | (go_at_call 13; go_must (refine (HST.out _ (by first | exact qb (Below.refl _ _) | exact q8 (Below.refl _ _) _)).mono ?_; rintro e w3 ⟨rfl, hb, c4⟩; have ab := Aside0.mk (xe HB.out HB.out.size (Below.trans (by first | exact qk HP.out.ps.be (qb (Below.refl _ _)) | exact qk HP.out.ps.be (q8 (Below.refl _ _) _)) hb)); clear hb)))
  all_goals (
   go_wp2
   go_ret2
   exact ⟨rfl, ab.out⟩)
def zU (xs : List Nd) : List UInt8 × Int := if (xS xs).2 = true then ((xS xs).1, 0) else ([], 159)
set_option maxHeartbeats 4000000 in
set_option maxRecDepth 100000 in
theorem print_calls (w : World) (A : Option Addr) (n c : Nat) (xs : List Nd) (hC : Kd.C k31 w A n xs) (hok : ∀ x ∈ xs, okNd x) (hn : n ≤ 1000000) (hG : GT w) (hS : ∀ t, zH xs = some t → Small t) :
 Calls Tryd.prog 4 #[.slice A n c] w fun e w' => e = .returned (.tuple #[.string ⟨(zU xs).1.toArray⟩, .int .i64 (zU xs).2]) ∧ Below w.heap.size w w' := by
 have HSC := Aside0.mk (shown_calls w A n c xs hC hok hn hG hS);clear hC hok hG hS;obtain ⟨⟨s, b⟩, hp⟩ : ∃ p, p = xS xs := ⟨_, rfl⟩;rw [← hp] at HSC
 cases b with
 | true =>
  have e1 : zU xs = (s, 0) := by unfold zU; rw [← hp]; rfl
  rw [e1];clear hp e1
  go_enter Tryd.func4, Tryd.ntmps4
  go_wp2_with (first | (go_at_call 7; go_must (refine HSC.out.mono ?_; rintro e w1 ⟨rfl, hb⟩; have HB := Aside0.mk hb; clear hb)))
  go_ret2
  exact ⟨rfl, HB.out⟩
 | false =>
  have e1 : zU xs = ([], 159) := by unfold zU; rw [← hp]; rfl
  rw [e1];clear hp e1
  go_enter Tryd.func4, Tryd.ntmps4
  go_wp2_with (first | (go_at_call 7; go_must (refine HSC.out.mono ?_; rintro e w1 ⟨rfl, hb⟩; have HB := Aside0.mk hb; clear hb)))
  go_ret2
  exact ⟨rfl, HB.out⟩
theorem nodess_app : ∀ a b : List Tr, zy (a ++ b) = zy a + zy b
 | [], b => by simp [zy]
 | t :: a, b => by simp only [List.cons_append, zy, nodess_app a b]; omega
def rootOK (t : Tr) : Prop := t.f0.f0 = 6 → 0 < t.f0.f3.size
theorem step_keeps {st s : List Tr} {x : Nd} (h : xk st x = some s) : zy s = zy st + 1 ∧ ((∀ t ∈ st, rootOK t) → ∀ t ∈ s, rootOK t) := by
 unfold xk at h
 split at h
 · cases h
 · rename_i hc
   have hh : xa x = true := by
    cases hb : xa x with
    | true => rfl
    | false => exact absurd (.inr (.inr hb)) hc
   split at h
   · injection h with h
     subst h;refine ⟨?_, fun hst t ht => ?_⟩
     · have := nodess_app (st.take (st.length - x.f1.toNat)) (st.drop (st.length - x.f1.toNat))
       rw [List.take_append_drop] at this;rw [nodess_app];simp only [zy, zK]
       omega
     · rcases List.mem_append.1 ht with ht | ht
       · exact hst t (List.mem_of_mem_take ht)
       · rw [List.mem_singleton.1 ht]
         exact fun h6 => vt x hh h6
   · cases h
theorem run_keeps : ∀ (xs : List Nd) (st s : List Tr), runP st xs = some s → zy s = zy st + xs.length ∧ ((∀ t ∈ st, rootOK t) → ∀ t ∈ s, rootOK t)
 | [], st, s, h => by
  injection h with h
  subst h
  exact ⟨rfl, fun h => h⟩
 | x :: xs, st, s, h => by
  obtain ⟨s1, h1, h2⟩ := Option.bind_eq_some_iff.1 h;obtain ⟨a1, a2⟩ := step_keeps h1;obtain ⟨b1, b2⟩ := run_keeps xs s1 s h2
  exact ⟨by rw [b1, a1, List.length_cons]; omega, fun h => b2 (a2 h)⟩
theorem grown_keeps {xs : List Nd} {t : Tr} (h : zH xs = some t) : zK t = xs.length ∧ rootOK t := by
 unfold zH at h
 split at h
 · rename_i t2 h2
   injection h with h
   subst h;obtain ⟨a, b⟩ := run_keeps xs [] [t2] h2
   exact ⟨by simpa [zy] using a, b (by simp) t2 (by simp)⟩
 · cases h
theorem lev_one (t : Tr) : 1 ≤ levI t := by
 have hl : ∀ op, 1 ≤ lvlI op := by
  intro op;unfold lvlI
  by_cases h1 : op = 24
  · rw [if_pos h1]; omega
  rw [if_neg h1]
  by_cases h2 : op = 23
  · rw [if_pos h2]; omega
  rw [if_neg h2]
  by_cases h3 : op = 16
  · rw [if_pos h3]; omega
  rw [if_neg h3]
  by_cases h4 : op = 11 ∨ op = 12
  · rw [if_pos h4]; omega
  rw [if_neg h4]
  by_cases h5 : op = 13 ∨ op = 14 ∨ op = 15
  · rw [if_pos h5]; omega
  rw [if_neg h5]; omega
 unfold levI;have := hl t.f0.f0
 by_cases h1 : t.f0.f0 ≤ 6
 · rw [if_pos h1]; omega
 rw [if_neg h1]
 by_cases h2 : t.f0.f0 = 7
 · rw [if_pos h2]; omega
 rw [if_neg h2]
 by_cases h3 : t.f0.f0 = 8
 · rw [if_pos h3]; by_cases h9 : sug t = true
   · rw [if_pos h9]; omega
   · rw [if_neg h9]; omega
 rw [if_neg h3]
 by_cases h4 : t.f0.f0 = 9 ∨ t.f0.f0 = 10
 · rw [if_pos h4]; omega
 rw [if_neg h4]
 by_cases h5 : t.f0.f0 ≤ 24
 · rw [if_pos h5]; omega
 rw [if_neg h5]
 by_cases h6 : t.f0.f0 ≤ 27
 · rw [if_pos h6]; omega
 rw [if_neg h6]; omega
theorem opd_one (t : Tr) (s : List UInt8) : opd 1 t s = s := by unfold opd; rw [if_neg (by have := lev_one t; omega)]
theorem opdD_one (t : Tr) (d : Nat) : opdD 1 t d = d := by unfold opdD; rw [if_neg (by have := lev_one t; omega)]
theorem opd_len (k : Int) (t : Tr) (s : List UInt8) : (opd k t s).length ≤ s.length + 2 := by
 unfold opd
 by_cases h : levI t < k
 · rw [if_pos h]; simp
 · rw [if_neg h]; omega
def tot : List Tx → Nat
 | [] => 0
 | p :: r => max p.1.length p.2.length + 10 + tot r
def totz : List (Tr × Tx) → Nat
 | [] => 0
 | p :: r => p.2.1.length + 10 + totz r
theorem xI : ∀ (ks : List Tr) (ss : List Tx), totz (ks.zip ss) ≤ tot ss
 | [], ss => by simp [totz]
 | k :: ks, [] => by simp [totz]
 | k :: ks, s :: ss => by
  have := xI ks ss;simp only [List.zip_cons_cons, totz, tot]
  omega
theorem lst_tot : ∀ l : List (Tr × Tx), (lstL l).length ≤ totz l
 | [] => by simp [lstL]
 | p :: r => by
  have h1 := opd_len 1 p.1 p.2.1
  have h2 : ∀ r : List (Tr × Tx), (r.flatMap (fun q => 44 :: 32 :: opd 1 q.1 q.2.1)).length ≤ totz r := by
   intro r
   induction r with
   | nil => simp [totz]
   | cons q r ih =>
    have h3 := opd_len 1 q.1 q.2.1;simp only [List.flatMap_cons, List.length_append, List.length_cons, totz]
    omega
  have := h2 r;simp only [lstL, List.length_append, totz]
  omega
theorem whL_tot : ∀ (l : List (Tr × Tx)) (i : Nat), (whL i l).length ≤ totz l
 | [], _ => by simp [whL]
 | p :: r, i => by
  have h1 := opd_len 1 p.1 p.2.1;have h2 := whL_tot r (i + 1)
  have h3 : ((if i % 2 = 0 then [32, 87, 72, 69, 78, 32] else [32, 84, 72, 69, 78, 32]) : List UInt8).length = 6 := by by_cases h : i % 2 = 0 <;> simp [h]
  simp only [whL, List.length_append, totz, h3]
  omega
theorem txt_three (ss : List Tx) : (txt ss 0).1.length + (txt ss 1).1.length + (txt ss 2).1.length ≤ tot ss ∧ (txt ss 0).2.length ≤ tot ss := by
 match ss with
 | [] => simp [txt, tot]
 | [a] => simp [txt, tot]; omega
 | [a, b] => simp [txt, tot]; omega
 | a :: b :: c :: r => simp [txt, tot]; omega
theorem tot_take (l : List (Tr × Tx)) (q : Nat) (hq : q < l.length) : totz (l.take q) + (l[q]).2.1.length ≤ totz l := by
 have happ : ∀ a b : List (Tr × Tx), totz (a ++ b) = totz a + totz b := by
  intro a b
  induction a with
  | nil => simp [totz]
  | cons p r ih => simp only [List.cons_append, totz, ih]; omega
 have h := happ (l.take q) (l.drop q);rw [List.take_append_drop, List.drop_eq_getElem_cons hq] at h;simp only [totz] at h
 omega
theorem sign_two (op : Int) : (xL op).length ≤ 3 := by
 unfold xL
 repeat refine ite_len _ _ _ (by decide) ?_
 decide
theorem leaf_len (op num : Int) (l : List UInt8) : (leafL op num l).length ≤ 2 * l.length + (Lib.itoa num).length + 10 := by
 have hq : ∀ q, (quoL q l).length ≤ 2 * l.length + 2 := by
  intro q;have := dbl_len q l;simp only [quoL, List.length_cons, List.length_append, List.length_nil]
  omega
 have hn : (nameL l).length ≤ 2 * l.length + 2 := by
  unfold nameL
  by_cases h : kwB (upL l) = true ∨ l.all okB = false ∨ digB (l.headD 0) = true
  · rw [if_pos h]; exact hq 34
  · rw [if_neg h]; omega
 unfold leafL
 by_cases h1 : op = 1
 · rw [if_pos h1]; omega
 rw [if_neg h1]
 by_cases h2 : op = 2
 · rw [if_pos h2]; have := hq 39; omega
 rw [if_neg h2]
 by_cases h3 : op = 3
 · rw [if_pos h3]; simp
 rw [if_neg h3]
 by_cases h4 : op = 4
 · rw [if_pos h4]; simp
 rw [if_neg h4]
 by_cases h5 : op = 5
 · rw [if_pos h5]; simp
 rw [if_neg h5]; omega
theorem node_len (nt : List UInt8) (hnt : nt.length ≤ 4) (x : Nd) (ks : List Tr) (ss : List Tx) (hl : ss.length = ks.length) : (zg nt x ks ss).length ≤ 2 * x.f3.size + (Lib.itoa x.f2).length + 60 + tot ss := by
 have h3 := txt_three ss
 have ho : ∀ i, (opn x ks ss i).length ≤ (txt ss i).1.length + 2 := fun i => opd_len _ _ _
 have o0 := ho 0;have o1 := ho 1;have o2 := ho 2;have hz := xI ks ss;have hlf := leaf_len x.f0 x.f2 x.f3.data.toList;have hsz := clen x.f3;rw [hsz] at hlf;have hsg := sign_two x.f0;unfold zg
 by_cases h1 : x.f0 ≤ 6
 · rw [if_pos h1]; omega
 rw [if_neg h1]
 by_cases h2 : x.f0 = 7
 · rw [if_pos h2]
   have : ((if (kid ks 0).f0.f0 = 7 then [32] else []) : List UInt8).length ≤ 1 := by by_cases h : (kid ks 0).f0.f0 = 7 <;> simp [h]
   simp only [List.length_cons, List.length_append]; omega
 rw [if_neg h2]
 by_cases h4 : x.f0 = 8
 · rw [if_pos h4]
   by_cases h5 : zF (kid ks 0).f0.f0 = true
   · rw [if_pos h5]; omega
   · rw [if_neg h5]; simp only [List.length_cons, List.length_append, List.length_nil]; omega
 rw [if_neg h4]
 by_cases h5 : x.f0 = 9
 · rw [if_pos h5]; simp only [List.length_cons, List.length_append, List.length_nil]; omega
 rw [if_neg h5]
 by_cases h6 : x.f0 = 10
 · rw [if_pos h6]; simp only [List.length_cons, List.length_append, List.length_nil]; omega
 rw [if_neg h6]
 by_cases h7 : x.f0 ≤ 24
 · rw [if_pos h7]; simp only [List.length_cons, List.length_append, List.length_nil]; omega
 rw [if_neg h7]
 by_cases h8 : x.f0 = 25
 · rw [if_pos h8]; simp only [List.length_cons, List.length_append, List.length_nil]; omega
 rw [if_neg h8]
 by_cases h9 : x.f0 = 26
 · rw [if_pos h9]; simp only [List.length_cons, List.length_append, List.length_nil]; omega
 rw [if_neg h9]
 by_cases ac : x.f0 = 27
 · rw [if_pos ac]
   match ks, ss, hl with
   | [], [], _ =>
    have : (opn x [] [] 0).length ≤ 2 := by simpa [txt] using ho 0
    simp only [List.length_cons, List.length_append, List.length_nil, List.zip_nil_left, List.drop_nil, lstL]; omega
   | k :: ks, s :: ss, _ =>
    have e := lst_tot (ks.zip ss);have e2 := xI ks ss;have e3 : (txt (s :: ss) 0).1.length = s.1.length := rfl;simp only [List.length_cons, List.length_append, List.length_nil, List.zip_cons_cons, List.drop_succ_cons, List.drop_zero, tot]
    omega
 rw [if_neg ac]
 by_cases ae : x.f0 = 28
 · rw [if_pos ae, whenL_eq]
   have e := whL_tot ((ks.zip ss).take (ks.length - 1)) 0;have e2 := ho (ks.length - 1)
   have e4 : totz ((ks.zip ss).take (ks.length - 1)) + (txt ss (ks.length - 1)).1.length ≤ totz (ks.zip ss) := by
    by_cases h0 : ks.length = 0
    · obtain rfl := List.length_eq_zero_iff.1 h0
      obtain rfl := List.length_eq_zero_iff.1 (hl.trans h0)
      simp [txt, totz]
    · have hq : ks.length - 1 < (ks.zip ss).length := by rw [List.length_zip]; omega
      have h9 := tot_take (ks.zip ss) (ks.length - 1) hq
      have am : ((ks.zip ss)[ks.length - 1]).2 = txt ss (ks.length - 1) := by
       have hs : ks.length - 1 < ss.length := by omega
       simp [txt, hs]
      rw [am] at h9
      exact h9
   simp only [List.length_cons, List.length_append, List.length_nil]
   omega
 rw [if_neg ae];have e := lst_tot (ks.zip ss);simp only [List.length_cons, List.length_append, List.length_nil, hsz]
 omega
def wt (x : Nd) : Nat := 2 * x.f3.size + (Lib.itoa x.f2).length + 70
mutual
def wtT : Tr → Nat
 | ⟨x, ks⟩ => wt x + wtTs ks
def wtTs : List Tr → Nat
 | [] => 0
 | t :: ts => wtT t + wtTs ts
end
mutual
theorem shw_len : ∀ t : Tr, max (shw t).1.length (shw t).2.length + 10 ≤ wtT t
 | ⟨x, ks⟩ => by
  have h := shws_tot ks;have h1 := node_len [] (by simp) x ks (shws ks) (shws_len ks);have h2 := node_len [32, 78, 79, 84] (by simp) x ks (shws ks) (shws_len ks);simp only [shw, wtT, wt]
  omega
theorem shws_tot : ∀ ks : List Tr, tot (shws ks) ≤ wtTs ks
 | [] => by simp [shws, tot]
 | t :: ts => by
  have h1 := shw_len t;have h2 := shws_tot ts;simp only [shws, tot, wtTs]
  omega
end
theorem maxD_le (x : Nd) : ∀ (l : List (Tr × Nat)) (k B : Nat), (∀ p ∈ l, p.2 ≤ B) → maxD x k l ≤ B + 2
 | [], _, _, _ => by simp [maxD]
 | p :: r, k, B, h => by
  have h1 := maxD_le x r (k + 1) B (fun q hq => h q (List.mem_cons_of_mem _ hq));have h2 := h p (List.mem_cons_self)
  have h3 : opdD (zp x.f0 k) p.1 p.2 ≤ 1 + p.2 := by unfold opdD; split <;> omega
  have h4 : xr x.f0 k ≤ 1 := by unfold xr; split <;> omega
  simp only [maxD]
  omega
mutual
theorem dep_le : ∀ t : Tr, dep t ≤ 2 * zK t
 | ⟨x, ks⟩ => by
  have h := deps_le ks;have h1 := maxD_le x (ks.zip (deps ks)) 0 (2 * zy ks) (fun p hp => h p.2 (List.of_mem_zip hp).2);simp only [dep, zK]
  split
  · have h2 : (deps ks).getD 0 0 ≤ 2 * zy ks := by
     cases hd : deps ks with
     | nil => simp
     | cons a r => rw [hd] at h; simpa using h a List.mem_cons_self
    omega
  · omega
theorem deps_le : ∀ ks : List Tr, ∀ d ∈ deps ks, d ≤ 2 * zy ks
 | [] => by simp [deps]
 | t :: ts => by
  have h1 := dep_le t;have h2 := deps_le ts;intro d hd;simp only [deps, List.mem_cons] at hd;simp only [zy]
  rcases hd with rfl | hd
  · omega
  · have := h2 d hd; omega
end
theorem wtTs_app : ∀ a b : List Tr, wtTs (a ++ b) = wtTs a + wtTs b
 | [], b => by simp [wtTs]
 | t :: a, b => by simp only [List.cons_append, wtTs, wtTs_app a b]; omega
def wtL : List Nd → Nat
 | [] => 0
 | x :: r => wt x + wtL r
theorem step_wt {st s : List Tr} {x : Nd} (h : xk st x = some s) : wtTs s = wtTs st + wt x := by
 unfold xk at h
 split at h
 · cases h
 · split at h
   · injection h with h
     subst h;have := wtTs_app (st.take (st.length - x.f1.toNat)) (st.drop (st.length - x.f1.toNat));rw [List.take_append_drop] at this;rw [wtTs_app];simp only [wtTs, wtT]
     omega
   · cases h
theorem run_wt : ∀ (xs : List Nd) (st s : List Tr), runP st xs = some s → wtTs s = wtTs st + wtL xs
 | [], st, s, h => by
  injection h with h
  subst h
  rfl
 | x :: xs, st, s, h => by
  obtain ⟨s1, h1, h2⟩ := Option.bind_eq_some_iff.1 h;rw [run_wt xs s1 s h2, step_wt h1];simp only [wtL]
  omega
theorem grown_wt {xs : List Nd} {t : Tr} (h : zH xs = some t) : wtT t = wtL xs := by
 unfold zH at h
 split at h
 · rename_i t2 h2
   injection h with h
   subst h;have := run_wt xs [] [t2] h2
   simpa [wtTs] using this
 · cases h
theorem node_ne (nt : List UInt8) (x : Nd) (ks : List Tr) (ss : List Tx) (h7 : 7 ≤ x.f0) (h8 : x.f0 = 8 → zF (kid ks 0).f0.f0 = true → (txt ss 0).2 ≠ []) : zg nt x ks ss ≠ [] := by
 unfold zg;rw [if_neg (by omega)]
 by_cases h2 : x.f0 = 7
 · rw [if_pos h2]; simp
 rw [if_neg h2]
 by_cases h4 : x.f0 = 8
 · rw [if_pos h4]
   by_cases h5 : zF (kid ks 0).f0.f0 = true
   · rw [if_pos h5]; exact h8 h4 h5
   · rw [if_neg h5]; simp
 rw [if_neg h4]
 by_cases h5 : x.f0 = 9
 · rw [if_pos h5]; simp
 rw [if_neg h5]
 by_cases h6 : x.f0 = 10
 · rw [if_pos h6]; simp
 rw [if_neg h6]
 by_cases h9 : x.f0 ≤ 24
 · rw [if_pos h9]; simp
 rw [if_neg h9]
 by_cases ab : x.f0 = 25
 · rw [if_pos ab]; simp
 rw [if_neg ab]
 by_cases ac : x.f0 = 26
 · rw [if_pos ac]; simp
 rw [if_neg ac]
 by_cases ae : x.f0 = 27
 · rw [if_pos ae]; simp
 rw [if_neg ae]
 by_cases af : x.f0 = 28
 · rw [if_pos af]; simp
 rw [if_neg af]; simp
theorem vm {op : Int} {s : ByteArray} {n : Nat} (h : zb op s n = true) : 1 ≤ op := by
 by_cases h0 : 1 ≤ op
 · exact h0
 · unfold zb at h
   rw [if_neg (by omega), if_neg (by omega), if_neg (by omega), if_neg (by omega), if_neg (by omega), if_neg (by omega), if_neg (by omega)] at h
   cases h
theorem step_pos {st s : List Tr} {x : Nd} (h : xk st x = some s) : (∀ t ∈ st, 1 ≤ t.f0.f0) → ∀ t ∈ s, 1 ≤ t.f0.f0 := by
 unfold xk at h
 split at h
 · cases h
 · split at h
   · rename_i ht
     injection h with h
     subst h;intro hst t hm
     rcases List.mem_append.1 hm with hm | hm
     · exact hst t (List.mem_of_mem_take hm)
     · rw [List.mem_singleton.1 hm]
       exact vm ht
   · cases h
theorem run_pos : ∀ (xs : List Nd) (st s : List Tr), runP st xs = some s → (∀ t ∈ st, 1 ≤ t.f0.f0) → ∀ t ∈ s, 1 ≤ t.f0.f0
 | [], st, s, h => by
  injection h with h
  subst h
  exact fun h => h
 | x :: xs, st, s, h => by
  obtain ⟨s1, h1, h2⟩ := Option.bind_eq_some_iff.1 h
  exact fun hst => run_pos xs s1 s h2 (step_pos h1 hst)
theorem grown_pos {xs : List Nd} {t : Tr} (h : zH xs = some t) : 1 ≤ t.f0.f0 := by
 unfold zH at h
 split at h
 · rename_i t2 h2
   injection h with h
   subst h
   exact run_pos xs [] [t2] h2 (by simp) t2 (by simp)
 · cases h
theorem leaf_ne (op num : Int) (l : List UInt8) (hi : Lib.itoa num ≠ []) (h6 : op = 6 → l ≠ []) (h1 : 1 ≤ op) (h2 : op ≤ 6) : leafL op num l ≠ [] := by
 have hc : op = 1 ∨ op = 2 ∨ op = 3 ∨ op = 4 ∨ op = 5 ∨ op = 6 := by omega
 rcases hc with rfl | rfl | rfl | rfl | rfl | rfl
 · exact hi
 · show quoL 39 l ≠ []
   simp [quoL]
 · show ([78, 85, 76, 76] : List UInt8) ≠ []
   simp
 · show ([84, 82, 85, 69] : List UInt8) ≠ []
   simp
 · show ([70, 65, 76, 83, 69] : List UInt8) ≠ []
   simp
 · show nameL l ≠ []
   unfold nameL
   by_cases h : kwB (upL l) = true ∨ l.all okB = false ∨ digB (l.headD 0) = true
   · rw [if_pos h]; simp [quoL]
   · rw [if_neg h]; exact h6 rfl
theorem shw_ne (t : Tr) (h1 : 1 ≤ t.f0.f0) (h6 : rootOK t) (hi : ∀ n, Lib.itoa n ≠ []) : (shw t).1 ≠ [] := by
 obtain ⟨x, ks⟩ := t;show zg [] x ks (shws ks) ≠ []
 by_cases h : x.f0 ≤ 6
 · unfold zg
   rw [if_pos h];refine leaf_ne _ _ _ (hi _) (fun hx => ?_) h1 h;have hs : 0 < x.f3.size := h6 hx;intro h0;have := clen x.f3;rw [h0] at this
   simp at this
   omega
 · refine node_ne [] x ks (shws ks) (by omega) (fun _ hm => ?_)
   match ks, hm with
   | [], hm => exact absurd hm (by decide)
   | k :: r, hm =>
    obtain ⟨x2, aa⟩ := k;show zg [32, 78, 79, 84] x2 aa (shws aa) ≠ [];have ag : 25 ≤ x2.f0 := ((xB _).1 hm).1
    exact node_ne _ x2 aa (shws aa) (by omega) (fun h8 => by omega)
theorem small_of {xs : List Nd} {t : Tr} (h : zH xs = some t) (hl : xs.length ≤ 1000000) (hw : wtL xs ≤ 140737488355328) (hi : ∀ n, Lib.itoa n ≠ []) : Small t := by
 have h1 := grown_keeps h;have h2 := grown_wt h;have h3 := shw_len t;have h4 := dep_le t;refine ⟨by rw [opd_one]; omega, by rw [opdD_one]; omega, by omega, by rw [opd_one]; exact shw_ne t (grown_pos h) h1.2 hi⟩
theorem digits_ne (u : Nat) : Lib.decDigits u ≠ [] := by
 rw [Lib.decDigits]
 split <;> simp
theorem itoa_ne (n : Int) : Lib.itoa n ≠ [] := by
 unfold Lib.itoa
 by_cases h : n < 0
 · rw [if_pos h]; simp
 · rw [if_neg h]; exact digits_ne _
theorem print_ok (w : World) (A : Option Addr) (n c : Nat) (xs : List Nd) (hC : Kd.C k31 w A n xs) (hok : ∀ x ∈ xs, okNd x) (hn : n ≤ 1000000) (hw : wtL xs ≤ 140737488355328) (hG : GT w) :
 Calls Tryd.prog 4 #[.slice A n c] w fun e w' => e = .returned (.tuple #[.string ⟨(zU xs).1.toArray⟩, .int .i64 (zU xs).2]) ∧ Below w.heap.size w w' :=
 print_calls w A n c xs hC hok hn hG (fun _ h => small_of h (by have := hC.1; omega) hw itoa_ne)
def okNdB (x : Nd) : Bool := decide (-9223372036854775808 ≤ x.f1) && decide (x.f1 ≤ 9223372036854775807) && decide (-9223372036854775808 ≤ x.f2) && decide (x.f2 ≤ 9223372036854775807) && decide (x.f3.size ≤ 1000000000)
theorem okNdB_iff (x : Nd) : okNdB x = true ↔ okNd x := by
 unfold okNdB okNd;simp only [Bool.and_eq_true, decide_eq_true_eq, and_assoc]
def okIn (l : List Nd) : Bool := decide (l.length ≤ 1000000) && decide (wtL l ≤ 140737488355328) && l.all okNdB
theorem okIn_iff (l : List Nd) : okIn l = true ↔ l.length ≤ 1000000 ∧ wtL l ≤ 140737488355328 ∧ ∀ x ∈ l, okNd x := by
 unfold okIn;simp only [Bool.and_eq_true, decide_eq_true_eq, List.all_eq_true, okNdB_iff, and_assoc]
def zd.f (l : List S31) : Option (ByteArray × Int) := if okIn l = true then some (⟨(zU l).1.toArray⟩, (zU l).2) else none
abbrev GL (w : World) : Prop := GT w
theorem zd.calls (A0 : Option Addr) (c0 : Nat) (l0 : List S31) (r1 : ByteArray) (r2 : Int) (w : World) (ae : Kd.C k31 w A0 l0.length l0) (ai : l0.length ≤ c0) (h : zd.f l0 = some (r1, r2)) (hG : GT w) :
 Calls Tryd.prog 4 #[.slice A0 l0.length c0] w fun e w' => e = .returned (.tuple #[.string r1, .int .i64 r2]) ∧ Below w.heap.size w w' := by
 unfold zd.f at h
 by_cases hi : okIn l0 = true
 · rw [if_pos hi] at h
   obtain ⟨h1, h2, h3⟩ := (okIn_iff l0).1 hi;simp only [Option.some.injEq, Prod.mk.injEq] at h;obtain ⟨rfl, rfl⟩ := h
   exact print_ok w A0 l0.length c0 l0 ae h3 h1 h2 hG
 · rw [if_neg hi] at h
   cases h
def qz.j0 : Nat → Int → ByteArray → Bool → Option (Bool)
 | 0, _, _, _ => none
 | k + 1, x1, x5, x6 => if x6 = true then (some (x1 == 1)) else (if x5.toList = ([110, 117, 108, 108, 105, 102] : List UInt8) then (some (x1 == 2)) else (if x5.toList = ([115, 117, 98, 115, 116, 114] : List UInt8) then (some (x1 == 3)) else (if x5.toList = ([99, 111, 97, 108, 101, 115, 99, 101] : List UInt8) then (if x1 ≥ 1 then (some (decide (x1 ≤ 16))) else (some false)) else (if x5.toList = ([108, 101, 97, 115, 116] : List UInt8) then (if x1 ≥ 1 then (some (decide (x1 ≤ 16))) else (some false)) else (if x5.toList = ([103, 114, 101, 97, 116, 101, 115, 116] : List UInt8) then (if x1 ≥ 1 then (some (decide (x1 ≤ 16))) else (some false)) else (some false))))))
def qz.f (k : Nat) (a0 : ByteArray) (a1 : Int) : Option (Bool) := if a0.toList = ([97, 98, 115] : List UInt8) then (qz.j0 k a1 a0 (a0.toList == ([97, 98, 115] : List UInt8))) else (if a0.toList = ([108, 101, 110, 103, 116, 104] : List UInt8) then (qz.j0 k a1 a0 (a0.toList == ([108, 101, 110, 103, 116, 104] : List UInt8))) else (if a0.toList = ([108, 111, 119, 101, 114] : List UInt8) then (qz.j0 k a1 a0 (a0.toList == ([108, 111, 119, 101, 114] : List UInt8))) else (qz.j0 k a1 a0 (a0.toList == ([117, 112, 112, 101, 114] : List UInt8)))))
theorem qz.mono_l : ∀ k, (∀ y0 y1 y2, LeO (qz.j0 k y0 y1 y2) (qz.j0 (k + 1) y0 y1 y2))
 | 0 => fun _ _ _ r h => by simp [qz.j0] at h
 | k + 1 => by
  have aa := qz.mono_l k
  · intro y0 y1 y2
    unfold qz.j0
    repeat' first
    | (with_reducible exact aa _ _ _)
    | (with_reducible exact LeO.refl _)
    | (with_reducible exact LeO.none _)
    | (with_reducible refine LeO.ite ?_ ?_)
    | (with_reducible refine LeO.bind ?_ (fun _ => ?_))
    | exact aa _ _ _
    | exact LeO.none _
    | refine LeO.ite ?_ ?_
    | refine LeO.bind ?_ (fun _ => ?_)
theorem qz.mono : ∀ a0 a1 k, LeO (qz.f k a0 a1) (qz.f (k + 1) a0 a1) := by
 intro a0 a1 k;have aa := qz.mono_l k;unfold qz.f
 repeat' first
  | (with_reducible exact aa _ _ _)
  | (with_reducible exact LeO.refl _)
  | (with_reducible exact LeO.none _)
  | (with_reducible refine LeO.ite ?_ ?_)
  | (with_reducible refine LeO.bind ?_ (fun _ => ?_))
  | exact aa _ _ _
  | exact LeO.none _
  | refine LeO.ite ?_ ?_
  | refine LeO.bind ?_ (fun _ => ?_)
set_option maxHeartbeats 8000000 in
set_option maxRecDepth 100000 in
theorem qz.calls (k : Nat) (a0 : ByteArray) (a1 : Int) (r : Bool) (w : World) (h : qz.f k a0 a1 = some r) :
 Calls Tryd.prog 50 #[.string a0, .int .i64 a1] w fun e w' => e = .returned (.bool r) ∧ qB w w' := by
 have H : (if a0.toList = ([97, 98, 115] : List UInt8) then (qz.j0 k a1 a0 (a0.toList == ([97, 98, 115] : List UInt8))) else (if a0.toList = ([108, 101, 110, 103, 116, 104] : List UInt8) then (qz.j0 k a1 a0 (a0.toList == ([108, 101, 110, 103, 116, 104] : List UInt8))) else (if a0.toList = ([108, 111, 119, 101, 114] : List UInt8) then (qz.j0 k a1 a0 (a0.toList == ([108, 111, 119, 101, 114] : List UInt8))) else (qz.j0 k a1 a0 (a0.toList == ([117, 112, 112, 101, 114] : List UInt8)))))) = some r := h;clear h;have ap := Aside0.mk H;clear H
 go_enter Tryd.func50, Tryd.ntmps50
 go_upto_if 6 with (fail)
 go_cut [6] (fun v6 wc => ∃ (kq : Nat) (ak : Bool), v6 = .bool ak ∧ Aside0 (qz.j0 kq a1 a0 ak = some r) ∧ Aside0 (kq ≤ k) ∧ qB w wc)
 case first =>
  have H := ap.out;clear ap
  by_cases c4 : a0.toList = ([97, 98, 115] : List UInt8)
  · rw [if_pos c4] at H
    have ac : (a0.toList == ([97, 98, 115] : List UInt8)) = true := beq_iff_eq.mpr c4;have au : (a0.toList != ([97, 98, 115] : List UInt8)) = false := bne_eq_false_iff_eq.mpr c4;clear c4
    (first | rw [ac] | (simp only [qC, qD]; rw [ac]) | skip)
    have H' := Aside0.mk H;clear H;go_wp2;go_meet
    case rel => exact ⟨_, ((a0.toList == ([97, 98, 115] : List UInt8))), (by first | rfl | (simp; done) | (simp [*]; done)), H', ⟨by first | omega | exact Nat.le_refl _⟩, by repeat (first | exact qB.refl _ | apply qB.step)⟩
  · rw [if_neg c4] at H
    have ac : (a0.toList == ([97, 98, 115] : List UInt8)) = false := beq_eq_false_iff_ne.mpr c4;have au : (a0.toList != ([97, 98, 115] : List UInt8)) = true := bne_iff_ne.mpr c4
    (first | rw [ac] | (simp only [qC, qD]; rw [ac]) | skip)
    by_cases c5 : a0.toList = ([108, 101, 110, 103, 116, 104] : List UInt8)
    · rw [if_pos c5] at H
      have av : (a0.toList == ([108, 101, 110, 103, 116, 104] : List UInt8)) = true := beq_iff_eq.mpr c5;have aw : (a0.toList != ([108, 101, 110, 103, 116, 104] : List UInt8)) = false := bne_eq_false_iff_eq.mpr c5;clear c5;have H' := Aside0.mk H;clear H;go_wp2;go_meet
      case rel => exact ⟨_, ((a0.toList == ([108, 101, 110, 103, 116, 104] : List UInt8))), (by first | rfl | (simp; done) | (simp [*]; done)), H', ⟨by first | omega | exact Nat.le_refl _⟩, by repeat (first | exact qB.refl _ | apply qB.step)⟩
    · rw [if_neg c5] at H
      have av : (a0.toList == ([108, 101, 110, 103, 116, 104] : List UInt8)) = false := beq_eq_false_iff_ne.mpr c5;have aw : (a0.toList != ([108, 101, 110, 103, 116, 104] : List UInt8)) = true := bne_iff_ne.mpr c5
      by_cases c6 : a0.toList = ([108, 111, 119, 101, 114] : List UInt8)
      · rw [if_pos c6] at H
        have ax : (a0.toList == ([108, 111, 119, 101, 114] : List UInt8)) = true := beq_iff_eq.mpr c6;have ay : (a0.toList != ([108, 111, 119, 101, 114] : List UInt8)) = false := bne_eq_false_iff_eq.mpr c6;clear c6;have H' := Aside0.mk H;clear H;go_wp2;go_meet
        case rel => exact ⟨_, ((a0.toList == ([108, 111, 119, 101, 114] : List UInt8))), (by first | rfl | (simp; done) | (simp [*]; done)), H', ⟨by first | omega | exact Nat.le_refl _⟩, by repeat (first | exact qB.refl _ | apply qB.step)⟩
      · rw [if_neg c6] at H
        have ax : (a0.toList == ([108, 111, 119, 101, 114] : List UInt8)) = false := beq_eq_false_iff_ne.mpr c6;have ay : (a0.toList != ([108, 111, 119, 101, 114] : List UInt8)) = true := bne_iff_ne.mpr c6;have H' := Aside0.mk H;clear H;go_wp2;go_meet
        case rel => exact ⟨_, ((a0.toList == ([117, 112, 112, 101, 114] : List UInt8))), (by first | rfl | (simp; done) | (simp [*]; done)), H', ⟨by first | omega | exact Nat.le_refl _⟩, by repeat (first | exact qB.refl _ | apply qB.step)⟩
 case rest =>
  clear ap
  (try clear p2); (try clear c4); (try clear ac); (try clear au); (try clear c5); (try clear av); (try clear aw); (try clear c6); (try clear ax); (try clear ay)
  obtain ⟨kq, ak, rfl, HA, bi, ⟨bj, rfl⟩⟩ := hcut
  cases kq with
  | zero => exact absurd HA.out (by simp [qz.j0])
  | succ bk =>
   have H := HA.out;clear HA;simp only [qz.j0] at H
   by_cases c7 : ak = true
   · subst c7
     have H1 : (some (a1 == 1)) = some r := by rw [if_pos rfl] at H; exact H
     clear H;have H := H1;clear H1;obtain rfl := Option.some.inj H;go_wp2
     go_ret
     exact ⟨by first | rfl | (simp; done) | (simp [*]; done), by repeat (first | exact qB.refl _ | apply qB.step)⟩
   · replace c7 := Bool.eq_false_iff.mpr c7
     subst c7
     have H1 : (if a0.toList = ([110, 117, 108, 108, 105, 102] : List UInt8) then (some (a1 == 2)) else (if a0.toList = ([115, 117, 98, 115, 116, 114] : List UInt8) then (some (a1 == 3)) else (if a0.toList = ([99, 111, 97, 108, 101, 115, 99, 101] : List UInt8) then (if a1 ≥ 1 then (some (decide (a1 ≤ 16))) else (some false)) else (if a0.toList = ([108, 101, 97, 115, 116] : List UInt8) then (if a1 ≥ 1 then (some (decide (a1 ≤ 16))) else (some false)) else (if a0.toList = ([103, 114, 101, 97, 116, 101, 115, 116] : List UInt8) then (if a1 ≥ 1 then (some (decide (a1 ≤ 16))) else (some false)) else (some false)))))) = some r := by rw [if_neg (show ¬ (false = true) by decide)] at H; exact H
     clear H;have H := H1;clear H1
     by_cases c8 : a0.toList = ([110, 117, 108, 108, 105, 102] : List UInt8)
     · rw [if_pos c8] at H
       have bc : (a0.toList == ([110, 117, 108, 108, 105, 102] : List UInt8)) = true := beq_iff_eq.mpr c8;have bd : (a0.toList != ([110, 117, 108, 108, 105, 102] : List UInt8)) = false := bne_eq_false_iff_eq.mpr c8;clear c8;obtain rfl := Option.some.inj H;go_wp2
       go_ret
       exact ⟨by first | rfl | (simp; done) | (simp [*]; done), by repeat (first | exact qB.refl _ | apply qB.step)⟩
     · rw [if_neg c8] at H
       have bc : (a0.toList == ([110, 117, 108, 108, 105, 102] : List UInt8)) = false := beq_eq_false_iff_ne.mpr c8;have bd : (a0.toList != ([110, 117, 108, 108, 105, 102] : List UInt8)) = true := bne_iff_ne.mpr c8
       by_cases c9 : a0.toList = ([115, 117, 98, 115, 116, 114] : List UInt8)
       · rw [if_pos c9] at H
         have bf : (a0.toList == ([115, 117, 98, 115, 116, 114] : List UInt8)) = true := beq_iff_eq.mpr c9;have bg : (a0.toList != ([115, 117, 98, 115, 116, 114] : List UInt8)) = false := bne_eq_false_iff_eq.mpr c9;clear c9;obtain rfl := Option.some.inj H;go_wp2
         go_ret
         exact ⟨by first | rfl | (simp; done) | (simp [*]; done), by repeat (first | exact qB.refl _ | apply qB.step)⟩
       · rw [if_neg c9] at H
         have bf : (a0.toList == ([115, 117, 98, 115, 116, 114] : List UInt8)) = false := beq_eq_false_iff_ne.mpr c9;have bg : (a0.toList != ([115, 117, 98, 115, 116, 114] : List UInt8)) = true := bne_iff_ne.mpr c9
         by_cases ae : a0.toList = ([99, 111, 97, 108, 101, 115, 99, 101] : List UInt8)
         · rw [if_pos ae] at H
           have a3 : (a0.toList == ([99, 111, 97, 108, 101, 115, 99, 101] : List UInt8)) = true := beq_iff_eq.mpr ae;have a4 : (a0.toList != ([99, 111, 97, 108, 101, 115, 99, 101] : List UInt8)) = false := bne_eq_false_iff_eq.mpr ae;clear ae
           by_cases ah : a1 ≥ 1
           · rw [if_pos ah] at H
             have a5 : decide (1 ≤ a1) = true := decide_eq_true ah;clear ah;obtain rfl := Option.some.inj H;go_wp2
             go_ret
             exact ⟨by first | rfl | (simp; done) | (simp [*]; done), by repeat (first | exact qB.refl _ | apply qB.step)⟩
           · rw [if_neg ah] at H
             have a5 : decide (1 ≤ a1) = false := decide_eq_false ah;clear ah;obtain rfl := Option.some.inj H;go_wp2
             go_ret
             exact ⟨by first | rfl | (simp; done) | (simp [*]; done), by repeat (first | exact qB.refl _ | apply qB.step)⟩
         · rw [if_neg ae] at H
           have a3 : (a0.toList == ([99, 111, 97, 108, 101, 115, 99, 101] : List UInt8)) = false := beq_eq_false_iff_ne.mpr ae;have a4 : (a0.toList != ([99, 111, 97, 108, 101, 115, 99, 101] : List UInt8)) = true := bne_iff_ne.mpr ae
           by_cases af : a0.toList = ([108, 101, 97, 115, 116] : List UInt8)
           · rw [if_pos af] at H
             have a6 : (a0.toList == ([108, 101, 97, 115, 116] : List UInt8)) = true := beq_iff_eq.mpr af;have a7 : (a0.toList != ([108, 101, 97, 115, 116] : List UInt8)) = false := bne_eq_false_iff_eq.mpr af;clear af
             by_cases ai : a1 ≥ 1
             · rw [if_pos ai] at H
               have a8 : decide (1 ≤ a1) = true := decide_eq_true ai;clear ai;obtain rfl := Option.some.inj H;go_wp2
               go_ret
               exact ⟨by first | rfl | (simp; done) | (simp [*]; done), by repeat (first | exact qB.refl _ | apply qB.step)⟩
             · rw [if_neg ai] at H
               have a8 : decide (1 ≤ a1) = false := decide_eq_false ai;clear ai;obtain rfl := Option.some.inj H;go_wp2
               go_ret
               exact ⟨by first | rfl | (simp; done) | (simp [*]; done), by repeat (first | exact qB.refl _ | apply qB.step)⟩
           · rw [if_neg af] at H
             have a6 : (a0.toList == ([108, 101, 97, 115, 116] : List UInt8)) = false := beq_eq_false_iff_ne.mpr af;have a7 : (a0.toList != ([108, 101, 97, 115, 116] : List UInt8)) = true := bne_iff_ne.mpr af
             by_cases ag : a0.toList = ([103, 114, 101, 97, 116, 101, 115, 116] : List UInt8)
             · rw [if_pos ag] at H
               have a9 : (a0.toList == ([103, 114, 101, 97, 116, 101, 115, 116] : List UInt8)) = true := beq_iff_eq.mpr ag;have ba : (a0.toList != ([103, 114, 101, 97, 116, 101, 115, 116] : List UInt8)) = false := bne_eq_false_iff_eq.mpr ag;clear ag
               by_cases aj : a1 ≥ 1
               · rw [if_pos aj] at H
                 have bb : decide (1 ≤ a1) = true := decide_eq_true aj;clear aj;obtain rfl := Option.some.inj H;go_wp2
                 go_ret
                 exact ⟨by first | rfl | (simp; done) | (simp [*]; done), by repeat (first | exact qB.refl _ | apply qB.step)⟩
               · rw [if_neg aj] at H
                 have bb : decide (1 ≤ a1) = false := decide_eq_false aj;clear aj;obtain rfl := Option.some.inj H;go_wp2
                 go_ret
                 exact ⟨by first | rfl | (simp; done) | (simp [*]; done), by repeat (first | exact qB.refl _ | apply qB.step)⟩
             · rw [if_neg ag] at H
               have a9 : (a0.toList == ([103, 114, 101, 97, 116, 101, 115, 116] : List UInt8)) = false := beq_eq_false_iff_ne.mpr ag;have ba : (a0.toList != ([103, 114, 101, 97, 116, 101, 115, 116] : List UInt8)) = true := bne_iff_ne.mpr ag;obtain rfl := Option.some.inj H;go_wp2
               go_ret
               exact ⟨by first | rfl | (simp; done) | (simp [*]; done), by repeat (first | exact qB.refl _ | apply qB.step)⟩
end Go.Proofs.YtfmgbgkcmmpcfaaDoor.PTx

