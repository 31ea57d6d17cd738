import Derived.Test.YtfmgbgkcmmpcfaaGreatDoorCPTkx0
import Derived.Test.YtfmgbgkcmmpcfaaGreatDoorCPTkx1
import Derived.Test.YtfmgbgkcmmpcfaaGreatDoorCPTkx2
import Derived.Test.YtfmgbgkcmmpcfaaGreatDoorCPTkx3
import Derived.Test.YtfmgbgkcmmpcfaaGreatDoorCPTkx5
namespace Go.Proofs.YtfmgbgkcmmpcfaaGreatDoor.PTk
open Go.RowKit Go.Proofs.YtfmgbgkcmmpcfaaGreatDoorW.PrintWords Go.Proofs.YtfmgbgkcmmpcfaaGreatDoorW.PrintLast Go.Proofs.YtfmgbgkcmmpcfaaGreatDoorW.PrintMore
attribute [local go_sem] zp zC
set_option linter.unusedVariables false
set_option linter.unusedSimpArgs false
theorem isw_new (w : World) : IsW w.heap.size w.heap.size [] 0 0 (w.alloc (.cells #[.pointer none, .slice none 0 0, .int .i64 0, .int .i64 0] 231)) :=
 .inl ⟨Nat.le_refl _, .slice none 0 0, qL w _, ⟨rfl, .inl ⟨rfl, rfl⟩⟩, by simp [Value.ownBlock]⟩
theorem pw_new (w : World) : PW w w.heap.size [] 0 0 (w.alloc (.cells #[.pointer none, .slice none 0 0, .int .i64 0, .int .i64 0] 231)) :=
 ⟨isw_new w, q8 (Below.refl _ _) _⟩
structure Small (t : Tr) : Prop where
 len : (opd 1 t (shw t).1).length ≤ 140737488355328
 dp : opdD 1 t (dep t) ≤ 1000000000
 nds : zS t ≤ 1000000000
 ne : opd 1 t (shw t).1 ≠ []
def xP (xs : List Nd) : List UInt8 × Bool := match zE xs with
 | none => ([], false)
 | some t => (opd 1 t (shw t).1, decide ((opdD 1 t (dep t) : Int) ≤ 32))
set_option maxHeartbeats 4000000 in
set_option maxRecDepth 100000 in
theorem shown_calls (w : World) (A : Option Addr) (n c : Nat) (xs : List Nd) (hC : Kd.C k86 w A n xs) (hok : ∀ x ∈ xs, okNd x) (hn : n ≤ 1000000) (hG : GT w) (hS : ∀ t, zE xs = some t → Small t) :
 Calls Tryz.prog 102 #[.slice A n c] w fun e w' => e = .returned (.tuple #[.string ⟨(xP xs).1.toArray⟩, .bool (xP xs).2]) ∧ Below w.heap.size w w' := by
 have HGR := Aside0.mk (grown_calls w A n c xs hC hok hn hG)
 cases hgr : zE xs with
 | none =>
  have e1 : xP xs = ([], false) := by unfold xP; rw [hgr]
  rw [e1]
  have hgc : Calls Tryz.prog 151 #[.slice A n c] w fun e w' => e = .returned .nilIface ∧ Below w.heap.size w w' := HGR.out.mono (by
   rintro e w' ⟨hb, ⟨_, rfl⟩ | ⟨t, v, h, _⟩⟩
   · exact ⟨rfl, hb⟩
   · rw [hgr] at h; cases h)
  have HGC := Aside0.mk hgc;clear hgc hC hok hG hS hgr e1
  go_enter Tryz.func102, Tryz.ntmps102
  go_wp2_with (first | (go_at_call 151; go_must (refine HGC.out.mono ?_; rintro e w1 ⟨rfl, hb⟩; have HB := Aside0.mk hb; clear hb)))
  go_ret2
  exact ⟨rfl, HB.out⟩
 | some t =>
  have hs := hS t hgr
  have e1 : xP xs = (opd 1 t (shw t).1, decide ((opdD 1 t (dep t) : Int) ≤ 32)) := by unfold xP; rw [hgr]
  rw [e1]
  have hgc : Calls Tryz.prog 151 #[.slice A n c] w fun e w' => ∃ T u, e = .returned (.iface T u) ∧ Below w.heap.size w w' ∧ IsT w' (.iface T u) t := HGR.out.mono (by
   rintro e w' ⟨hb, ⟨h, rfl⟩ | ⟨t2, v, h, rfl, hI⟩⟩
   · rw [hgr] at h; cases h
   · rw [hgr] at h
     injection h with h
     subst h;obtain ⟨T, u, rfl⟩ := zL hI
     exact ⟨T, u, rfl, hb, hI⟩)
  have HGC := Aside0.mk hgc;have HS := Aside0.mk hs;clear hgc hC hok hG hS hgr e1 hs
  go_enter Tryz.func102, Tryz.ntmps102
  go_upto_region 5 with (first | (go_at_call 151; go_must (refine HGC.out.mono ?_; rintro e w1 ⟨T, u, rfl, hb, hI⟩; have HB := Aside0.mk hb; have HI := Aside0.mk hI; clear hb hI)))
  have HT := Aside0.mk (tree_of_bare w1 _ t rfl (has_level HI.out) (bare_ok w1 (zS t) _ t (Nat.le_refl _) HS.out.nds HI.out));have HW := Aside0.mk (pw_new w1);have HF : Aside0 (Fits [] 0 0 (opd 1 t (shw t).1) (opdD 1 t (dep t))) := ⟨⟨by have := HS.out.len; simpa using this, by omega, by have := HS.out.dp; omega, by omega, by omega⟩⟩;have HBS := Aside0.mk (HB.out.size)
  go_upto_region 6 with (first | (go_at_call 152; go_must (refine (HT.out _ w1.heap.size [] 0 0 1 HW.out HF.out).mono ?_; rintro e w2 ⟨rfl, ho⟩; have HP := Aside0.mk ho; clear ho)))
  have em : max (0 : Int) (0 + (opdD 1 t (dep t) : Int)) = (opdD 1 t (dep t) : Int) := by omega
  rw [em, List.nil_append] at HP;clear em
  have hdb : (opdD 1 t (dep t) : Int) ≤ 1000000000 := by have := HS.out.dp; omega
  have HST := Aside0.mk (fun (W : World) (hb : Below w2.heap.size w2 W) => wstring_calls w1.heap.size w1.heap.size (opd 1 t (shw t).1) 0 (opdD 1 t (dep t) : Int) W (HP.out.ps.wr.below hb) HS.out.ne);have c3 : w2.cell? ⟨w1.heap.size, 3, none⟩ = some (.int .i64 (opdD 1 t (dep t) : Int)) := HP.out.ps.wr.facts.c3;have ac := Aside0.mk (HP.out.ps.be)
  go_region_with (first
   | (go_at_call 26; go_must (refine (HST.out _ (by first | exact qb (Below.refl _ _) | exact q9 (Below.refl _ _) _)).mono ?_; rintro e w3 ⟨rfl, hb, c4⟩; have ab := Aside0.mk (qy HB.out HB.out.size (Below.trans (by first | exact qr HP.out.ps.be (qb (Below.refl _ _)) | exact qr HP.out.ps.be (q9 (Below.refl _ _) _)) hb)); clear hb)))
  all_goals (
   go_wp2
   go_ret2
   exact ⟨rfl, ab.out⟩)
def zB (xs : List Nd) : List UInt8 × Int := if (xP xs).2 = true then ((xP xs).1, 0) else ([], 159)
set_option maxHeartbeats 4000000 in
set_option maxRecDepth 100000 in
theorem print_calls (w : World) (A : Option Addr) (n c : Nat) (xs : List Nd) (hC : Kd.C k86 w A n xs) (hok : ∀ x ∈ xs, okNd x) (hn : n ≤ 1000000) (hG : GT w) (hS : ∀ t, zE xs = some t → Small t) :
 Calls Tryz.prog 68 #[.slice A n c] w fun e w' => e = .returned (.tuple #[.string ⟨(zB xs).1.toArray⟩, .int .i64 (zB xs).2]) ∧ Below w.heap.size w w' := by
 have HSC := Aside0.mk (shown_calls w A n c xs hC hok hn hG hS);clear hC hok hG hS;obtain ⟨⟨s, b⟩, hp⟩ : ∃ p, p = xP xs := ⟨_, rfl⟩;rw [← hp] at HSC
 cases b with
 | true =>
  have e1 : zB xs = (s, 0) := by unfold zB; rw [← hp]; rfl
  rw [e1];clear hp e1
  go_enter Tryz.func68, Tryz.ntmps68
  go_wp2_with (first | (go_at_call 102; go_must (refine HSC.out.mono ?_; rintro e w1 ⟨rfl, hb⟩; have HB := Aside0.mk hb; clear hb)))
  go_ret2
  exact ⟨rfl, HB.out⟩
 | false =>
  have e1 : zB xs = ([], 159) := by unfold zB; rw [← hp]; rfl
  rw [e1];clear hp e1
  go_enter Tryz.func68, Tryz.ntmps68
  go_wp2_with (first | (go_at_call 102; go_must (refine HSC.out.mono ?_; rintro e w1 ⟨rfl, hb⟩; have HB := Aside0.mk hb; clear hb)))
  go_ret2
  exact ⟨rfl, HB.out⟩
theorem nodess_app : ∀ a b : List Tr, zD (a ++ b) = zD a + zD b
 | [], b => by simp [zD]
 | t :: a, b => by simp only [List.cons_append, zD, nodess_app a b]; omega
def rootOK (t : Tr) : Prop := t.f0.f0 = 6 → 0 < t.f0.f3.size
theorem step_keeps {st s : List Tr} {x : Nd} (h : xt st x = some s) : zD s = zD st + 1 ∧ ((∀ t ∈ st, rootOK t) → ∀ t ∈ s, rootOK t) := by
 unfold xt at h
 split at h
 · cases h
 · rename_i hc
   have hh : xa x = true := by
    cases hb : xa x with
    | true => rfl
    | false => exact absurd (.inr (.inr hb)) hc
   split at h
   · injection h with h
     subst h;refine ⟨?_, fun hst t ht => ?_⟩
     · have := nodess_app (st.take (st.length - x.f1.toNat)) (st.drop (st.length - x.f1.toNat))
       rw [List.take_append_drop] at this;rw [nodess_app];simp only [zD, zS]
       omega
     · rcases List.mem_append.1 ht with ht | ht
       · exact hst t (List.mem_of_mem_take ht)
       · rw [List.mem_singleton.1 ht]
         exact fun h6 => vQ x hh h6
   · cases h
theorem run_keeps : ∀ (xs : List Nd) (st s : List Tr), runP st xs = some s → zD s = zD st + xs.length ∧ ((∀ t ∈ st, rootOK t) → ∀ t ∈ s, rootOK t)
 | [], st, s, h => by
  injection h with h
  subst h
  exact ⟨rfl, fun h => h⟩
 | x :: xs, st, s, h => by
  obtain ⟨s1, h1, h2⟩ := Option.bind_eq_some_iff.1 h;obtain ⟨a1, a2⟩ := step_keeps h1;obtain ⟨b1, b2⟩ := run_keeps xs s1 s h2
  exact ⟨by rw [b1, a1, List.length_cons]; omega, fun h => b2 (a2 h)⟩
theorem grown_keeps {xs : List Nd} {t : Tr} (h : zE xs = some t) : zS t = xs.length ∧ rootOK t := by
 unfold zE at h
 split at h
 · rename_i t2 h2
   injection h with h
   subst h;obtain ⟨a, b⟩ := run_keeps xs [] [t2] h2
   exact ⟨by simpa [zD] using a, b (by simp) t2 (by simp)⟩
 · cases h
theorem lev_one (t : Tr) : 1 ≤ levI t := by
 have hl : ∀ op, 1 ≤ lvlI op := by
  intro op;unfold lvlI
  by_cases h1 : op = 24
  · rw [if_pos h1]; omega
  rw [if_neg h1]
  by_cases h2 : op = 23
  · rw [if_pos h2]; omega
  rw [if_neg h2]
  by_cases h3 : op = 16
  · rw [if_pos h3]; omega
  rw [if_neg h3]
  by_cases h4 : op = 11 ∨ op = 12
  · rw [if_pos h4]; omega
  rw [if_neg h4]
  by_cases h5 : op = 13 ∨ op = 14 ∨ op = 15
  · rw [if_pos h5]; omega
  rw [if_neg h5]; omega
 unfold levI;have := hl t.f0.f0
 by_cases h1 : t.f0.f0 ≤ 6
 · rw [if_pos h1]; omega
 rw [if_neg h1]
 by_cases h2 : t.f0.f0 = 7
 · rw [if_pos h2]; omega
 rw [if_neg h2]
 by_cases h3 : t.f0.f0 = 8
 · rw [if_pos h3]; by_cases h9 : sug t = true
   · rw [if_pos h9]; omega
   · rw [if_neg h9]; omega
 rw [if_neg h3]
 by_cases h4 : t.f0.f0 = 9 ∨ t.f0.f0 = 10
 · rw [if_pos h4]; omega
 rw [if_neg h4]
 by_cases h5 : t.f0.f0 ≤ 24
 · rw [if_pos h5]; omega
 rw [if_neg h5]
 by_cases h6 : t.f0.f0 ≤ 27
 · rw [if_pos h6]; omega
 rw [if_neg h6]; omega
theorem opd_one (t : Tr) (s : List UInt8) : opd 1 t s = s := by unfold opd; rw [if_neg (by have := lev_one t; omega)]
theorem opdD_one (t : Tr) (d : Nat) : opdD 1 t d = d := by unfold opdD; rw [if_neg (by have := lev_one t; omega)]
theorem opd_len (k : Int) (t : Tr) (s : List UInt8) : (opd k t s).length ≤ s.length + 2 := by
 unfold opd
 by_cases h : levI t < k
 · rw [if_pos h]; simp
 · rw [if_neg h]; omega
def tot : List Tx → Nat
 | [] => 0
 | p :: r => max p.1.length p.2.length + 10 + tot r
def totz : List (Tr × Tx) → Nat
 | [] => 0
 | p :: r => p.2.1.length + 10 + totz r
theorem xY : ∀ (ks : List Tr) (ss : List Tx), totz (ks.zip ss) ≤ tot ss
 | [], ss => by simp [totz]
 | k :: ks, [] => by simp [totz]
 | k :: ks, s :: ss => by
  have := xY ks ss;simp only [List.zip_cons_cons, totz, tot]
  omega
theorem lst_tot : ∀ l : List (Tr × Tx), (lstL l).length ≤ totz l
 | [] => by simp [lstL]
 | p :: r => by
  have h1 := opd_len 1 p.1 p.2.1
  have h2 : ∀ r : List (Tr × Tx), (r.flatMap (fun q => 44 :: 32 :: opd 1 q.1 q.2.1)).length ≤ totz r := by
   intro r
   induction r with
   | nil => simp [totz]
   | cons q r ih =>
    have h3 := opd_len 1 q.1 q.2.1;simp only [List.flatMap_cons, List.length_append, List.length_cons, totz]
    omega
  have := h2 r;simp only [lstL, List.length_append, totz]
  omega
theorem whL_tot : ∀ (l : List (Tr × Tx)) (i : Nat), (whL i l).length ≤ totz l
 | [], _ => by simp [whL]
 | p :: r, i => by
  have h1 := opd_len 1 p.1 p.2.1;have h2 := whL_tot r (i + 1)
  have h3 : ((if i % 2 = 0 then [32, 87, 72, 69, 78, 32] else [32, 84, 72, 69, 78, 32]) : List UInt8).length = 6 := by by_cases h : i % 2 = 0 <;> simp [h]
  simp only [whL, List.length_append, totz, h3]
  omega
theorem txt_three (ss : List Tx) : (txt ss 0).1.length + (txt ss 1).1.length + (txt ss 2).1.length ≤ tot ss ∧ (txt ss 0).2.length ≤ tot ss := by
 match ss with
 | [] => simp [txt, tot]
 | [a] => simp [txt, tot]; omega
 | [a, b] => simp [txt, tot]; omega
 | a :: b :: c :: r => simp [txt, tot]; omega
theorem tot_take (l : List (Tr × Tx)) (q : Nat) (hq : q < l.length) : totz (l.take q) + (l[q]).2.1.length ≤ totz l := by
 have happ : ∀ a b : List (Tr × Tx), totz (a ++ b) = totz a + totz b := by
  intro a b
  induction a with
  | nil => simp [totz]
  | cons p r ih => simp only [List.cons_append, totz, ih]; omega
 have h := happ (l.take q) (l.drop q);rw [List.take_append_drop, List.drop_eq_getElem_cons hq] at h;simp only [totz] at h
 omega
theorem sign_two (op : Int) : (vf op).length ≤ 3 := by
 unfold vf
 repeat refine ite_len _ _ _ (by decide) ?_
 decide
theorem leaf_len (op num : Int) (l : List UInt8) : (leafL op num l).length ≤ 2 * l.length + (Lib.itoa num).length + 10 := by
 have hq : ∀ q, (quoL q l).length ≤ 2 * l.length + 2 := by
  intro q;have := dbl_len q l;simp only [quoL, List.length_cons, List.length_append, List.length_nil]
  omega
 have hn : (vG l).length ≤ 2 * l.length + 2 := by
  unfold vG
  by_cases h : kwB (upL l) = true ∨ l.all okB = false ∨ digB (l.headD 0) = true
  · rw [if_pos h]; exact hq 34
  · rw [if_neg h]; omega
 unfold leafL
 by_cases h1 : op = 1
 · rw [if_pos h1]; omega
 rw [if_neg h1]
 by_cases h2 : op = 2
 · rw [if_pos h2]; have := hq 39; omega
 rw [if_neg h2]
 by_cases h3 : op = 3
 · rw [if_pos h3]; simp
 rw [if_neg h3]
 by_cases h4 : op = 4
 · rw [if_pos h4]; simp
 rw [if_neg h4]
 by_cases h5 : op = 5
 · rw [if_pos h5]; simp
 rw [if_neg h5]; omega
theorem node_len (nt : List UInt8) (hnt : nt.length ≤ 4) (x : Nd) (ks : List Tr) (ss : List Tx) (hl : ss.length = ks.length) : (zb nt x ks ss).length ≤ 2 * x.f3.size + (Lib.itoa x.f2).length + 60 + tot ss := by
 have h3 := txt_three ss
 have ho : ∀ i, (opn x ks ss i).length ≤ (txt ss i).1.length + 2 := fun i => opd_len _ _ _
 have o0 := ho 0;have o1 := ho 1;have o2 := ho 2;have hz := xY ks ss;have hlf := leaf_len x.f0 x.f2 x.f3.data.toList;have hsz := clen x.f3;rw [hsz] at hlf;have hsg := sign_two x.f0;unfold zb
 by_cases h1 : x.f0 ≤ 6
 · rw [if_pos h1]; omega
 rw [if_neg h1]
 by_cases h2 : x.f0 = 7
 · rw [if_pos h2]
   have : ((if (kid ks 0).f0.f0 = 7 then [32] else []) : List UInt8).length ≤ 1 := by by_cases h : (kid ks 0).f0.f0 = 7 <;> simp [h]
   simp only [List.length_cons, List.length_append]; omega
 rw [if_neg h2]
 by_cases h4 : x.f0 = 8
 · rw [if_pos h4]
   by_cases h5 : zI (kid ks 0).f0.f0 = true
   · rw [if_pos h5]; omega
   · rw [if_neg h5]; simp only [List.length_cons, List.length_append, List.length_nil]; omega
 rw [if_neg h4]
 by_cases h5 : x.f0 = 9
 · rw [if_pos h5]; simp only [List.length_cons, List.length_append, List.length_nil]; omega
 rw [if_neg h5]
 by_cases h6 : x.f0 = 10
 · rw [if_pos h6]; simp only [List.length_cons, List.length_append, List.length_nil]; omega
 rw [if_neg h6]
 by_cases h7 : x.f0 ≤ 24
 · rw [if_pos h7]; simp only [List.length_cons, List.length_append, List.length_nil]; omega
 rw [if_neg h7]
 by_cases h8 : x.f0 = 25
 · rw [if_pos h8]; simp only [List.length_cons, List.length_append, List.length_nil]; omega
 rw [if_neg h8]
 by_cases h9 : x.f0 = 26
 · rw [if_pos h9]; simp only [List.length_cons, List.length_append, List.length_nil]; omega
 rw [if_neg h9]
 by_cases ac : x.f0 = 27
 · rw [if_pos ac]
   match ks, ss, hl with
   | [], [], _ =>
    have : (opn x [] [] 0).length ≤ 2 := by simpa [txt] using ho 0
    simp only [List.length_cons, List.length_append, List.length_nil, List.zip_nil_left, List.drop_nil, lstL]; omega
   | k :: ks, s :: ss, _ =>
    have e := lst_tot (ks.zip ss);have e2 := xY ks ss;have e3 : (txt (s :: ss) 0).1.length = s.1.length := rfl;simp only [List.length_cons, List.length_append, List.length_nil, List.zip_cons_cons, List.drop_succ_cons, List.drop_zero, tot]
    omega
 rw [if_neg ac]
 by_cases ae : x.f0 = 28
 · rw [if_pos ae, whenL_eq]
   have e := whL_tot ((ks.zip ss).take (ks.length - 1)) 0;have e2 := ho (ks.length - 1)
   have e4 : totz ((ks.zip ss).take (ks.length - 1)) + (txt ss (ks.length - 1)).1.length ≤ totz (ks.zip ss) := by
    by_cases h0 : ks.length = 0
    · obtain rfl := List.length_eq_zero_iff.1 h0
      obtain rfl := List.length_eq_zero_iff.1 (hl.trans h0)
      simp [txt, totz]
    · have hq : ks.length - 1 < (ks.zip ss).length := by rw [List.length_zip]; omega
      have h9 := tot_take (ks.zip ss) (ks.length - 1) hq
      have al : ((ks.zip ss)[ks.length - 1]).2 = txt ss (ks.length - 1) := by
       have hs : ks.length - 1 < ss.length := by omega
       simp [txt, hs]
      rw [al] at h9
      exact h9
   simp only [List.length_cons, List.length_append, List.length_nil]
   omega
 rw [if_neg ae];have e := lst_tot (ks.zip ss);simp only [List.length_cons, List.length_append, List.length_nil, hsz]
 omega
def wt (x : Nd) : Nat := 2 * x.f3.size + (Lib.itoa x.f2).length + 70
mutual
def wtT : Tr → Nat
 | ⟨x, ks⟩ => wt x + wtTs ks
def wtTs : List Tr → Nat
 | [] => 0
 | t :: ts => wtT t + wtTs ts
end
mutual
theorem shw_len : ∀ t : Tr, max (shw t).1.length (shw t).2.length + 10 ≤ wtT t
 | ⟨x, ks⟩ => by
  have h := shws_tot ks;have h1 := node_len [] (by simp) x ks (shws ks) (shws_len ks);have h2 := node_len [32, 78, 79, 84] (by simp) x ks (shws ks) (shws_len ks);simp only [shw, wtT, wt]
  omega
theorem shws_tot : ∀ ks : List Tr, tot (shws ks) ≤ wtTs ks
 | [] => by simp [shws, tot]
 | t :: ts => by
  have h1 := shw_len t;have h2 := shws_tot ts;simp only [shws, tot, wtTs]
  omega
end
theorem maxD_le (x : Nd) : ∀ (l : List (Tr × Nat)) (k B : Nat), (∀ p ∈ l, p.2 ≤ B) → maxD x k l ≤ B + 2
 | [], _, _, _ => by simp [maxD]
 | p :: r, k, B, h => by
  have h1 := maxD_le x r (k + 1) B (fun q hq => h q (List.mem_cons_of_mem _ hq));have h2 := h p (List.mem_cons_self)
  have h3 : opdD (zu x.f0 k) p.1 p.2 ≤ 1 + p.2 := by unfold opdD; split <;> omega
  have h4 : xi x.f0 k ≤ 1 := by unfold xi; split <;> omega
  simp only [maxD]
  omega
mutual
theorem dep_le : ∀ t : Tr, dep t ≤ 2 * zS t
 | ⟨x, ks⟩ => by
  have h := deps_le ks;have h1 := maxD_le x (ks.zip (deps ks)) 0 (2 * zD ks) (fun p hp => h p.2 (List.of_mem_zip hp).2);simp only [dep, zS]
  split
  · have h2 : (deps ks).getD 0 0 ≤ 2 * zD ks := by
     cases hd : deps ks with
     | nil => simp
     | cons a r => rw [hd] at h; simpa using h a List.mem_cons_self
    omega
  · omega
theorem deps_le : ∀ ks : List Tr, ∀ d ∈ deps ks, d ≤ 2 * zD ks
 | [] => by simp [deps]
 | t :: ts => by
  have h1 := dep_le t;have h2 := deps_le ts;intro d hd;simp only [deps, List.mem_cons] at hd;simp only [zD]
  rcases hd with rfl | hd
  · omega
  · have := h2 d hd; omega
end
theorem wtTs_app : ∀ a b : List Tr, wtTs (a ++ b) = wtTs a + wtTs b
 | [], b => by simp [wtTs]
 | t :: a, b => by simp only [List.cons_append, wtTs, wtTs_app a b]; omega
def wtL : List Nd → Nat
 | [] => 0
 | x :: r => wt x + wtL r
theorem step_wt {st s : List Tr} {x : Nd} (h : xt st x = some s) : wtTs s = wtTs st + wt x := by
 unfold xt at h
 split at h
 · cases h
 · split at h
   · injection h with h
     subst h;have := wtTs_app (st.take (st.length - x.f1.toNat)) (st.drop (st.length - x.f1.toNat));rw [List.take_append_drop] at this;rw [wtTs_app];simp only [wtTs, wtT]
     omega
   · cases h
theorem run_wt : ∀ (xs : List Nd) (st s : List Tr), runP st xs = some s → wtTs s = wtTs st + wtL xs
 | [], st, s, h => by
  injection h with h
  subst h
  rfl
 | x :: xs, st, s, h => by
  obtain ⟨s1, h1, h2⟩ := Option.bind_eq_some_iff.1 h;rw [run_wt xs s1 s h2, step_wt h1];simp only [wtL]
  omega
theorem grown_wt {xs : List Nd} {t : Tr} (h : zE xs = some t) : wtT t = wtL xs := by
 unfold zE at h
 split at h
 · rename_i t2 h2
   injection h with h
   subst h;have := run_wt xs [] [t2] h2
   simpa [wtTs] using this
 · cases h
theorem node_ne (nt : List UInt8) (x : Nd) (ks : List Tr) (ss : List Tx) (h7 : 7 ≤ x.f0) (h8 : x.f0 = 8 → zI (kid ks 0).f0.f0 = true → (txt ss 0).2 ≠ []) : zb nt x ks ss ≠ [] := by
 unfold zb;rw [if_neg (by omega)]
 by_cases h2 : x.f0 = 7
 · rw [if_pos h2]; simp
 rw [if_neg h2]
 by_cases h4 : x.f0 = 8
 · rw [if_pos h4]
   by_cases h5 : zI (kid ks 0).f0.f0 = true
   · rw [if_pos h5]; exact h8 h4 h5
   · rw [if_neg h5]; simp
 rw [if_neg h4]
 by_cases h5 : x.f0 = 9
 · rw [if_pos h5]; simp
 rw [if_neg h5]
 by_cases h6 : x.f0 = 10
 · rw [if_pos h6]; simp
 rw [if_neg h6]
 by_cases h9 : x.f0 ≤ 24
 · rw [if_pos h9]; simp
 rw [if_neg h9]
 by_cases ab : x.f0 = 25
 · rw [if_pos ab]; simp
 rw [if_neg ab]
 by_cases ac : x.f0 = 26
 · rw [if_pos ac]; simp
 rw [if_neg ac]
 by_cases ae : x.f0 = 27
 · rw [if_pos ae]; simp
 rw [if_neg ae]
 by_cases af : x.f0 = 28
 · rw [if_pos af]; simp
 rw [if_neg af]; simp
theorem vJ {op : Int} {s : ByteArray} {n : Nat} (h : qY op s n = true) : 1 ≤ op := by
 by_cases h0 : 1 ≤ op
 · exact h0
 · unfold qY at h
   rw [if_neg (by omega), if_neg (by omega), if_neg (by omega), if_neg (by omega), if_neg (by omega), if_neg (by omega), if_neg (by omega)] at h
   cases h
theorem step_pos {st s : List Tr} {x : Nd} (h : xt st x = some s) : (∀ t ∈ st, 1 ≤ t.f0.f0) → ∀ t ∈ s, 1 ≤ t.f0.f0 := by
 unfold xt at h
 split at h
 · cases h
 · split at h
   · rename_i ht
     injection h with h
     subst h;intro hst t hm
     rcases List.mem_append.1 hm with hm | hm
     · exact hst t (List.mem_of_mem_take hm)
     · rw [List.mem_singleton.1 hm]
       exact vJ ht
   · cases h
theorem run_pos : ∀ (xs : List Nd) (st s : List Tr), runP st xs = some s → (∀ t ∈ st, 1 ≤ t.f0.f0) → ∀ t ∈ s, 1 ≤ t.f0.f0
 | [], st, s, h => by
  injection h with h
  subst h
  exact fun h => h
 | x :: xs, st, s, h => by
  obtain ⟨s1, h1, h2⟩ := Option.bind_eq_some_iff.1 h
  exact fun hst => run_pos xs s1 s h2 (step_pos h1 hst)
theorem grown_pos {xs : List Nd} {t : Tr} (h : zE xs = some t) : 1 ≤ t.f0.f0 := by
 unfold zE at h
 split at h
 · rename_i t2 h2
   injection h with h
   subst h
   exact run_pos xs [] [t2] h2 (by simp) t2 (by simp)
 · cases h
theorem leaf_ne (op num : Int) (l : List UInt8) (hi : Lib.itoa num ≠ []) (h6 : op = 6 → l ≠ []) (h1 : 1 ≤ op) (h2 : op ≤ 6) : leafL op num l ≠ [] := by
 have hc : op = 1 ∨ op = 2 ∨ op = 3 ∨ op = 4 ∨ op = 5 ∨ op = 6 := by omega
 rcases hc with rfl | rfl | rfl | rfl | rfl | rfl
 · exact hi
 · show quoL 39 l ≠ []
   simp [quoL]
 · show ([78, 85, 76, 76] : List UInt8) ≠ []
   simp
 · show ([84, 82, 85, 69] : List UInt8) ≠ []
   simp
 · show ([70, 65, 76, 83, 69] : List UInt8) ≠ []
   simp
 · show vG l ≠ []
   unfold vG
   by_cases h : kwB (upL l) = true ∨ l.all okB = false ∨ digB (l.headD 0) = true
   · rw [if_pos h]; simp [quoL]
   · rw [if_neg h]; exact h6 rfl
theorem shw_ne (t : Tr) (h1 : 1 ≤ t.f0.f0) (h6 : rootOK t) (hi : ∀ n, Lib.itoa n ≠ []) : (shw t).1 ≠ [] := by
 obtain ⟨x, ks⟩ := t;show zb [] x ks (shws ks) ≠ []
 by_cases h : x.f0 ≤ 6
 · unfold zb
   rw [if_pos h];refine leaf_ne _ _ _ (hi _) (fun hx => ?_) h1 h;have hs : 0 < x.f3.size := h6 hx;intro h0;have := clen x.f3;rw [h0] at this
   simp at this
   omega
 · refine node_ne [] x ks (shws ks) (by omega) (fun _ hm => ?_)
   match ks, hm with
   | [], hm => exact absurd hm (by decide)
   | k :: r, hm =>
    obtain ⟨x2, aa⟩ := k;show zb [32, 78, 79, 84] x2 aa (shws aa) ≠ [];have af : 25 ≤ x2.f0 := ((xM _).1 hm).1
    exact node_ne _ x2 aa (shws aa) (by omega) (fun h8 => by omega)
theorem small_of {xs : List Nd} {t : Tr} (h : zE xs = some t) (hl : xs.length ≤ 1000000) (hw : wtL xs ≤ 140737488355328) (hi : ∀ n, Lib.itoa n ≠ []) : Small t := by
 have h1 := grown_keeps h;have h2 := grown_wt h;have h3 := shw_len t;have h4 := dep_le t;refine ⟨by rw [opd_one]; omega, by rw [opdD_one]; omega, by omega, by rw [opd_one]; exact shw_ne t (grown_pos h) h1.2 hi⟩
theorem digits_ne (u : Nat) : Lib.decDigits u ≠ [] := by
 rw [Lib.decDigits]
 split <;> simp
theorem itoa_ne (n : Int) : Lib.itoa n ≠ [] := by
 unfold Lib.itoa
 by_cases h : n < 0
 · rw [if_pos h]; simp
 · rw [if_neg h]; exact digits_ne _
theorem print_ok (w : World) (A : Option Addr) (n c : Nat) (xs : List Nd) (hC : Kd.C k86 w A n xs) (hok : ∀ x ∈ xs, okNd x) (hn : n ≤ 1000000) (hw : wtL xs ≤ 140737488355328) (hG : GT w) :
 Calls Tryz.prog 68 #[.slice A n c] w fun e w' => e = .returned (.tuple #[.string ⟨(zB xs).1.toArray⟩, .int .i64 (zB xs).2]) ∧ Below w.heap.size w w' :=
 print_calls w A n c xs hC hok hn hG (fun _ h => small_of h (by have := hC.1; omega) hw itoa_ne)
def okNdB (x : Nd) : Bool := decide (-9223372036854775808 ≤ x.f1) && decide (x.f1 ≤ 9223372036854775807) && decide (-9223372036854775808 ≤ x.f2) && decide (x.f2 ≤ 9223372036854775807) && decide (x.f3.size ≤ 1000000000)
theorem okNdB_iff (x : Nd) : okNdB x = true ↔ okNd x := by
 unfold okNdB okNd;simp only [Bool.and_eq_true, decide_eq_true_eq, and_assoc]
def okIn (l : List Nd) : Bool := decide (l.length ≤ 1000000) && decide (wtL l ≤ 140737488355328) && l.all okNdB
theorem okIn_iff (l : List Nd) : okIn l = true ↔ l.length ≤ 1000000 ∧ wtL l ≤ 140737488355328 ∧ ∀ x ∈ l, okNd x := by
 unfold okIn;simp only [Bool.and_eq_true, decide_eq_true_eq, List.all_eq_true, okNdB_iff, and_assoc]
def zz.f (l : List S86) : Option (ByteArray × Int) := if okIn l = true then some (⟨(zB l).1.toArray⟩, (zB l).2) else none
theorem zz.calls (A0 : Option Addr) (c0 : Nat) (l0 : List S86) (r1 : ByteArray) (r2 : Int) (w : World) (ae : Kd.C k86 w A0 l0.length l0) (ah : l0.length ≤ c0) (h : zz.f l0 = some (r1, r2)) (hG : GT w) :
 Calls Tryz.prog 68 #[.slice A0 l0.length c0] w fun e w' => e = .returned (.tuple #[.string r1, .int .i64 r2]) ∧ Below w.heap.size w w' := by
 unfold zz.f at h
 by_cases hi : okIn l0 = true
 · rw [if_pos hi] at h
   obtain ⟨h1, h2, h3⟩ := (okIn_iff l0).1 hi;simp only [Option.some.injEq, Prod.mk.injEq] at h;obtain ⟨rfl, rfl⟩ := h
   exact print_ok w A0 l0.length c0 l0 ae h3 h1 h2 hG
 · rw [if_neg hi] at h
   cases h
section
open Go.Extern.Stop Go.Stop Go.Extern
theorem as_valueOfPP (t : Addr) (w : World) : (ReflectliteValue.unpack (.iface 122 (.pointer (some t)))).run Tryz.prog w
 = .ok (.agg #[.pointer (some ⟨7, 122, none⟩), .pointer (some ⟨w.heap.size, 0, none⟩), .int .u64 150]) (w.alloc (.cells #[.pointer (some t)] 122)) := by kernel_rfl
theorem as_typePP (a : Addr) (w : World) : (ReflectliteValue.methodAny (ReflectliteValue.valueError "reflectlite.Value.Type" 0) (fun t _ _ _ => ReflectliteType.toType t) #[.agg #[.pointer (some ⟨7, 122, none⟩), .pointer (some a), .int .u64 150]]).run Tryz.prog w
 = .ok (.iface 213 (.agg #[.pointer (some ⟨7, 122, none⟩)])) w := by kernel_rfl
theorem as_methodKind (h : Value) (w : World) : (Go.method 424 213 (.agg #[h]) "Kind").run Tryz.prog w = .ok (225, h) w := by kernel_rfl
theorem as_kindPP (w : World) : ((ReflectliteType.abiMethod fun t => (fun a : Nat => Value.int IntKind.u8 (a : Int)) <$> Rtype.kind t) #[.pointer (some ⟨7, 122, none⟩)]).run Tryz.prog w = .ok (.int .u8 22) w := by kernel_rfl
theorem as_kindPF (w : World) : ((ReflectliteType.abiMethod fun t => (fun a : Nat => Value.int IntKind.u8 (a : Int)) <$> Rtype.kind t) #[.pointer (some ⟨7, 120, none⟩)]).run Tryz.prog w = .ok (.int .u8 22) w := by kernel_rfl
theorem as_rlm (z : Sem Value) (f : TypeId → Addr → Nat → Nat → Sem Value) (v : Value) :
 ReflectliteValue.method z f #[v] = (do match ← ReflectliteValue.parts v with | none => z | some (t, a, fl) => f t a fl (fl % 32)) := rfl
theorem as_partsPP (a : Addr) (w : World) : (ReflectliteValue.parts (.agg #[.pointer (some ⟨7, 122, none⟩), .pointer (some a), .int .u64 150])).run Tryz.prog w = .ok (some (122, a, 150)) w := by kernel_rfl
theorem as_isNilPP (a p : Addr) (W : World) (ha : W.cell? a = some (.pointer (some p))) :
 (ReflectliteValue.method (ReflectliteValue.valueError "reflectlite.Value.IsNil" 0) ReflectliteValue.isNil #[.agg #[.pointer (some ⟨7, 122, none⟩), .pointer (some a), .int .u64 150]]).run Tryz.prog W = .ok (.bool false) W := by
 rw [as_rlm];simp only [Sem.run_bind, as_partsPP, Result.andThen]
 simp [ReflectliteValue.isNil, loadVar, isAgg, underlying, Tryz.underlying122, ha, Result.andThen]
theorem as_methodElem (h : Value) (w : World) : (Go.method 424 213 (.agg #[h]) "Elem").run Tryz.prog w = .ok (241, .agg #[h]) w := by kernel_rfl
theorem as_methodImplements (h : Value) (w : World) : (Go.method 424 213 (.agg #[h]) "Implements").run Tryz.prog w = .ok (242, .agg #[h]) w := by kernel_rfl
theorem xH (h : Value) (w : World) : (Go.method 424 213 (.agg #[h]) "AssignableTo").run Tryz.prog w = .ok (239, .agg #[h]) w := by kernel_rfl
theorem as_elemPP (w : World) : (ReflectliteType.method ReflectliteType.elem #[.agg #[.pointer (some ⟨7, 122, none⟩)]]).run Tryz.prog w = .ok (.iface 213 (.agg #[.pointer (some ⟨7, 120, none⟩)])) w := by kernel_rfl
theorem as_implementsPF (w : World) : (ReflectliteType.relation "Implements" ReflectliteType.implements_ #[.agg #[.pointer (some ⟨7, 120, none⟩)], .iface 213 (.agg #[.pointer (some ⟨7, 111, none⟩)])]).run Tryz.prog w = .ok (.bool true) w := by kernel_rfl
theorem as_typeOfPF (v : Value) (w : World) : (ReflectliteType.typeOf #[.iface 120 v]).run Tryz.prog w = .ok (.iface 213 (.agg #[.pointer (some ⟨7, 120, none⟩)])) w := by kernel_rfl
theorem as_typeOfPL (v : Value) (w : World) : (ReflectliteType.typeOf #[.iface 166 v]).run Tryz.prog w = .ok (.iface 213 (.agg #[.pointer (some ⟨7, 166, none⟩)])) w := by kernel_rfl
theorem as_assignPF (w : World) : (ReflectliteType.relation "AssignableTo" ReflectliteType.assignableTo #[.agg #[.pointer (some ⟨7, 120, none⟩)], .iface 213 (.agg #[.pointer (some ⟨7, 120, none⟩)])]).run Tryz.prog w = .ok (.bool true) w := by kernel_rfl
theorem as_assignPL (w : World) : (ReflectliteType.relation "AssignableTo" ReflectliteType.assignableTo #[.agg #[.pointer (some ⟨7, 166, none⟩)], .iface 213 (.agg #[.pointer (some ⟨7, 120, none⟩)])]).run Tryz.prog w = .ok (.bool false) w := by kernel_rfl
theorem as_valueOfPF (e : Addr) (w : World) : (ReflectliteValue.unpack (.iface 120 (.pointer (some e)))).run Tryz.prog w
 = .ok (.agg #[.pointer (some ⟨7, 120, none⟩), .pointer (some ⟨w.heap.size, 0, none⟩), .int .u64 150]) (w.alloc (.cells #[.pointer (some e)] 120)) := by kernel_rfl
theorem as_elemOfPP (w : World) : (Rtype.elem? 122).run Tryz.prog w = .ok (some 120) w := by kernel_rfl
theorem as_mkPF (p : Addr) (w : World) : (ReflectliteValue.mk 120 p ReflectliteValue.flagAddr).run Tryz.prog w = .ok (.agg #[.pointer (some ⟨7, 120, none⟩), .pointer (some p), .int .u64 406]) w := by kernel_rfl
theorem as_elemVPP (a p : Addr) (W : World) (ha : W.cell? a = some (.pointer (some p))) :
 (ReflectliteValue.method (ReflectliteValue.valueError "reflectlite.Value.Elem" 0) ReflectliteValue.elem #[.agg #[.pointer (some ⟨7, 122, none⟩), .pointer (some a), .int .u64 150]]).run Tryz.prog W
  = .ok (.agg #[.pointer (some ⟨7, 120, none⟩), .pointer (some p), .int .u64 406]) W := by
 rw [as_rlm];simp only [Sem.run_bind, as_partsPP, Result.andThen]
 simp [ReflectliteValue.elem, loadVar, isAgg, underlying, Tryz.underlying122, ha, Result.andThen, as_elemOfPP, as_mkPF]
theorem as_rls (v x : Value) : ReflectliteValue.set #[v, x] = (do
 let (some (dst, a, fl), some (src, b, _)) := (← ReflectliteValue.parts v, ← ReflectliteValue.parts x)
  | unsupported (.noEntry "extern/(internal/reflectlite.Value).Set.zeroValue")
 if fl / ReflectliteValue.flagAddr % 2 == 0 then unsupported (.noEntry "extern/(internal/reflectlite.Value).Set.unaddressable")
 let val ← loadVar src b
 if ← Rtype.directlyAssignable dst src then storeVar dst a val
 else if ← Rtype.implements dst src then
  if (← Rtype.kind src) == 20 then
   match val with
   | .nilIface => unsupported (.noEntry "extern/reflectlite: a nil value of one interface type handed on as a value of another")
   | _ => storeVar dst a val
  else storeVar dst a (.iface src val)
 else panicString ("reflectlite.Set: value of type " ++ (← Rtype.spelt src) ++ " is not assignable to type " ++ (← Rtype.spelt dst))
 pure (.tuple #[])) := rfl
theorem as_partsPFa (a : Addr) (w : World) : (ReflectliteValue.parts (.agg #[.pointer (some ⟨7, 120, none⟩), .pointer (some a), .int .u64 406])).run Tryz.prog w = .ok (some (120, a, 406)) w := by kernel_rfl
theorem as_partsPF (a : Addr) (w : World) : (ReflectliteValue.parts (.agg #[.pointer (some ⟨7, 120, none⟩), .pointer (some a), .int .u64 150])).run Tryz.prog w = .ok (some (120, a, 150)) w := by kernel_rfl
theorem as_directPF (w : World) : (Rtype.directlyAssignable 120 120).run Tryz.prog w = .ok true w := by kernel_rfl
theorem as_setPF (ta b e : Addr) (old : Value) (W : World) (hb : W.cell? b = some (.pointer (some e))) (ht : W.cell? ta = some old) (hf : W.frozen? ta = false) :
 (ReflectliteValue.set #[.agg #[.pointer (some ⟨7, 120, none⟩), .pointer (some ta), .int .u64 406], .agg #[.pointer (some ⟨7, 120, none⟩), .pointer (some b), .int .u64 150]]).run Tryz.prog W
  = .ok (.tuple #[]) (W.setCell ta (.pointer (some e))) := by
 rw [as_rls];simp only [Sem.run_bind, as_partsPFa, as_partsPF, Result.andThen]
 simp [ReflectliteValue.flagAddr, loadVar, isAgg, underlying, Tryz.underlying120, hb, Result.andThen, as_directPF, storeVar, Value.cells, storeCells, Addr.add]
 rw [run_store Tryz.prog W ta _ _ (by rfl)]
 simp [ht, hf]
end
section
open Go.Extern.Stop Go.Stop Go.Extern
theorem as_noAsPL (v : Value) (xT : TypeId) (w : World) : (Instr.typeAssert (.iface 166 v) xT 218 true).run Tryz.prog w = .ok (.tuple #[.nilIface, .bool false]) w := run_typeAssert_lacksB Tryz.underlying218 (by kernel_rfl) (by kernel_rfl) v xT w
theorem as_unwrapPL (v : Value) (xT : TypeId) (w : World) : (Instr.typeAssert (.iface 166 v) xT 221 true).run Tryz.prog w = .ok (.tuple #[.iface 166 v, .bool true]) w := run_typeAssert_hasB Tryz.underlying221 (by kernel_rfl) v xT w
theorem as_methodUnwrap (h : Value) (w : World) : (Go.method 424 166 h "Unwrap").run Tryz.prog w = .ok (234, h) w := by kernel_rfl
abbrev asVal (a : Addr) : Value := .agg #[.pointer (some ⟨7, 122, none⟩), .pointer (some a), .int .u64 150]
abbrev asTy : Value := .iface 213 (.agg #[.pointer (some ⟨7, 120, none⟩)])
abbrev asHit (w : World) (a e t : Addr) : World := ((w.alloc (.cells #[.pointer (some ⟨7, 122, none⟩), .pointer (some a), .int .u64 150] 154)).alloc (.cells #[.pointer (some e)] 120)).setCell t (.pointer (some e))
set_option maxHeartbeats 4000000 in
theorem as_inner (e t a : Addr) (old : Value) (w : World) (ha : w.cell? a = some (.pointer (some t))) (aa : w.cell? t = some old) (ab : w.frozen? t = false) :
 Calls Tryz.prog 101 #[.iface 120 (.pointer (some e)), .iface 122 (.pointer (some t)), asVal a, asTy] w fun ev w' => ev = .returned (.bool true) ∧ w' = asHit w a e t := by
 have ac := @run_callFunc_extern Tryz.prog 148 _ ReflectliteType.typeOf Tryz.func148 (by kernel_rfl) (by kernel_rfl) (by kernel_rfl) (by kernel_rfl);have ae := @run_callFunc_extern Tryz.prog 239 _ (ReflectliteType.relation "AssignableTo" ReflectliteType.assignableTo) Tryz.func239 (by kernel_rfl) (by kernel_rfl) (by kernel_rfl) (by kernel_rfl);have af := @run_callFunc_extern Tryz.prog 149 _ (ReflectliteValue.method (ReflectliteValue.valueError "reflectlite.Value.Elem" 0) ReflectliteValue.elem) Tryz.func149 (by kernel_rfl) (by kernel_rfl) (by kernel_rfl) (by kernel_rfl);have ah := @run_callFunc_extern Tryz.prog 98 _ (fun args => ReflectliteValue.unpack (args.getD 0 (.tuple #[]))) Tryz.func98 (by kernel_rfl) (by kernel_rfl) (by kernel_rfl) (by kernel_rfl);have ag := @run_callFunc_extern Tryz.prog 150 _ ReflectliteValue.set Tryz.func150 (by kernel_rfl) (by kernel_rfl) (by kernel_rfl) (by kernel_rfl);have tO := as_typeOfPF;have mA := xH;have ai := as_assignPF;have aj := as_valueOfPF;have hal : a.block < w.heap.size := World.block_lt_of_cell? w _ ha;have htl : t.block < w.heap.size := World.block_lt_of_cell? w _ aa;have el := as_elemVPP a t (w.alloc (.cells #[.pointer (some ⟨7, 122, none⟩), .pointer (some a), .int .u64 150] 154)) (by rw [World.cell?_alloc_lt _ _ a hal]; exact ha);have st := as_setPF t ⟨w.heap.size + 1, 0, none⟩ e old ((w.alloc (.cells #[.pointer (some ⟨7, 122, none⟩), .pointer (some a), .int .u64 150] 154)).alloc (.cells #[.pointer (some e)] 120))
  (by rw [World.cell?_alloc_at _ _ _ _ (by simp)]; rfl)
  (by rw [World.cell?_alloc_lt _ _ t (by simp; omega), World.cell?_alloc_lt _ _ t htl]; exact aa)
  (by rw [World.frozen?_alloc_old _ _ t (by simp; omega), World.frozen?_alloc_old _ _ t (Nat.ne_of_lt htl)]; exact ab)
 go_enter Tryz.func101, Tryz.ntmps101
 go_wp2;refine wp_loop_rounds 1 ?_;rw [rounds_succ];go_wp2
 go_ret
 exact ⟨rfl, rfl⟩
theorem unwrap_calls (p e : Addr) (w : World) (hp : w.cell? ⟨p.block, p.off + 1, none⟩ = some (.iface 120 (.pointer (some e)))) :
 Calls Tryz.prog 234 #[.pointer (some p)] w fun ev w' => ev = .returned (.iface 120 (.pointer (some e))) ∧ w = w' := by
 go_enter Tryz.func234, Tryz.ntmps234
 go_wp2
 go_ret
 exact ⟨rfl, rfl⟩
set_option maxHeartbeats 4000000 in
theorem as_inner_place (p e t a : Addr) (old : Value) (n : Int) (w : World) (hp : w.cell? ⟨p.block, p.off + 1, none⟩ = some (.iface 120 (.pointer (some e)))) (ha : w.cell? a = some (.pointer (some t))) (aa : w.cell? t = some old) (ab : w.frozen? t = false) :
 Calls Tryz.prog 101 #[.iface 166 (.pointer (some p)), .iface 122 (.pointer (some t)), asVal a, asTy] w fun ev w' => ev = .returned (.bool true) ∧ w' = asHit w a e t := by
 have ae := @run_callFunc_extern Tryz.prog 148 _ ReflectliteType.typeOf Tryz.func148 (by kernel_rfl) (by kernel_rfl) (by kernel_rfl) (by kernel_rfl);have af := @run_callFunc_extern Tryz.prog 239 _ (ReflectliteType.relation "AssignableTo" ReflectliteType.assignableTo) Tryz.func239 (by kernel_rfl) (by kernel_rfl) (by kernel_rfl) (by kernel_rfl);have ag := @run_callFunc_extern Tryz.prog 149 _ (ReflectliteValue.method (ReflectliteValue.valueError "reflectlite.Value.Elem" 0) ReflectliteValue.elem) Tryz.func149 (by kernel_rfl) (by kernel_rfl) (by kernel_rfl) (by kernel_rfl);have ai := @run_callFunc_extern Tryz.prog 98 _ (fun args => ReflectliteValue.unpack (args.getD 0 (.tuple #[]))) Tryz.func98 (by kernel_rfl) (by kernel_rfl) (by kernel_rfl) (by kernel_rfl);have ah := @run_callFunc_extern Tryz.prog 150 _ ReflectliteValue.set Tryz.func150 (by kernel_rfl) (by kernel_rfl) (by kernel_rfl) (by kernel_rfl);have tO := as_typeOfPF;have aj := as_typeOfPL;have ak := as_assignPL;have nA := as_noAsPL;have uW := as_unwrapPL;have mU := as_methodUnwrap;have mA := xH;have al := as_assignPF;have am := as_valueOfPF;have hal : a.block < w.heap.size := World.block_lt_of_cell? w _ ha;have htl : t.block < w.heap.size := World.block_lt_of_cell? w _ aa;have el := as_elemVPP a t (w.alloc (.cells #[.pointer (some ⟨7, 122, none⟩), .pointer (some a), .int .u64 150] 154)) (by rw [World.cell?_alloc_lt _ _ a hal]; exact ha);have st := as_setPF t ⟨w.heap.size + 1, 0, none⟩ e old ((w.alloc (.cells #[.pointer (some ⟨7, 122, none⟩), .pointer (some a), .int .u64 150] 154)).alloc (.cells #[.pointer (some e)] 120))
  (by rw [World.cell?_alloc_at _ _ _ _ (by simp)]; rfl)
  (by rw [World.cell?_alloc_lt _ _ t (by simp; omega), World.cell?_alloc_lt _ _ t htl]; exact aa)
  (by rw [World.frozen?_alloc_old _ _ t (by simp; omega), World.frozen?_alloc_old _ _ t (Nat.ne_of_lt htl)]; exact ab)
 have ac : (w.alloc (.cells #[.pointer (some ⟨7, 122, none⟩), .pointer (some a), .int .u64 150] 154)).cell? ⟨p.block, p.off + 1, none⟩ = some (.iface 120 (.pointer (some e))) := by rw [World.cell?_alloc_lt _ _ ⟨p.block, p.off + 1, none⟩ (World.block_lt_of_cell? w _ hp)]; exact hp
 go_enter Tryz.func101, Tryz.ntmps101
 go_wp2;refine wp_loop_rounds 2 ?_;rw [rounds_succ]
 go_wp2_with (first | (go_at_call 234; go_must (refine (unwrap_calls p e _ ac).mono ?_; rintro e2 w2 ⟨rfl, rfl⟩)))
 rw [rounds_succ];go_wp2
 go_ret
 exact ⟨rfl, rfl⟩
end
section
open Go.Extern.Stop Go.Stop Go.Extern
def ErrT (w : World) : Prop := w.cell? ⟨0, 0, none⟩ = some (.iface 213 (.agg #[.pointer (some ⟨7, 111, none⟩)]))
abbrev vB (w : World) (t : Addr) : World := (w.alloc (.cells #[.pointer (some t)] 122)).alloc (.cells #[.pointer (some ⟨7, 122, none⟩), .pointer (some ⟨w.heap.size, 0, none⟩), .int .u64 150] 154)
set_option maxHeartbeats 4000000 in
theorem as_calls (T : TypeId) (u : Value) (t e : Addr) (old : Value) (w : World) (hg : ErrT w) (aa : w.cell? t = some old) (ab : w.frozen? t = false)
 (HI : ∀ W (a : Addr), Below w.heap.size w W → W.cell? a = some (.pointer (some t)) → W.cell? t = some old → W.frozen? t = false → Calls Tryz.prog 101 #[.iface T u, .iface 122 (.pointer (some t)), asVal a, asTy] W fun ev w' => ev = .returned (.bool true) ∧ w' = asHit W a e t) :
 Calls Tryz.prog 67 #[.iface T u, .iface 122 (.pointer (some t))] w fun ev w' => ev = .returned (.bool true) ∧ w' = asHit (vB w t) ⟨w.heap.size, 0, none⟩ e t := by
 have ac := @run_callFunc_extern Tryz.prog 98 _ (fun args => ReflectliteValue.unpack (args.getD 0 (.tuple #[]))) Tryz.func98 (by kernel_rfl) (by kernel_rfl) (by kernel_rfl) (by kernel_rfl);have ae := @run_callFunc_extern Tryz.prog 99 _ (ReflectliteValue.methodAny (ReflectliteValue.valueError "reflectlite.Value.Type" 0) (fun t _ _ _ => ReflectliteType.toType t)) Tryz.func99 (by kernel_rfl) (by kernel_rfl) (by kernel_rfl) (by kernel_rfl);have af := @run_callFunc_extern Tryz.prog 100 _ (ReflectliteValue.method (ReflectliteValue.valueError "reflectlite.Value.IsNil" 0) ReflectliteValue.isNil) Tryz.func100 (by kernel_rfl) (by kernel_rfl) (by kernel_rfl) (by kernel_rfl);have ag := @run_callFunc_extern Tryz.prog 225 _ (ReflectliteType.abiMethod fun t => do pure (.int .u8 (← Rtype.kind t))) Tryz.func225 (by kernel_rfl) (by kernel_rfl) (by kernel_rfl) (by kernel_rfl);have ah := @run_callFunc_extern Tryz.prog 241 _ (ReflectliteType.method ReflectliteType.elem) Tryz.func241 (by kernel_rfl) (by kernel_rfl) (by kernel_rfl) (by kernel_rfl);have ai := @run_callFunc_extern Tryz.prog 242 _ (ReflectliteType.relation "Implements" ReflectliteType.implements_) Tryz.func242 (by kernel_rfl) (by kernel_rfl) (by kernel_rfl) (by kernel_rfl);have f6 := as_valueOfPP;have f7 := as_typePP;have mK := as_methodKind;have mE := as_methodElem;have mI := as_methodImplements;have aj := as_kindPP;have ak := as_kindPF;have al := as_elemPP;have am := as_implementsPF;have n8 := as_isNilPP ⟨w.heap.size, 0, none⟩ t (vB w t) (by simp);have hlt : 0 < w.heap.size := World.block_lt_of_cell? w _ hg
 have an : (vB w t).cell? ⟨0, 0, none⟩ = some (.iface 213 (.agg #[.pointer (some ⟨7, 111, none⟩)])) := by
  unfold vB
  rw [World.cell?_alloc_lt _ _ ⟨0, 0, none⟩ (by simp), World.cell?_alloc_lt _ _ ⟨0, 0, none⟩ hlt]; exact hg
 have htl : t.block < w.heap.size := World.block_lt_of_cell? w _ aa
 have HC := Aside0.mk (HI (vB w t) ⟨w.heap.size, 0, none⟩ (q8 (q8 (Below.refl _ _) _) _) (by simp)
  (by unfold vB; rw [World.cell?_alloc_lt _ _ t (by simp; omega), World.cell?_alloc_lt _ _ t htl]; exact aa)
  (by unfold vB; rw [World.frozen?_alloc_old _ _ t (by simp; omega), World.frozen?_alloc_old _ _ t (Nat.ne_of_lt htl)]; exact ab))
 clear HI
 go_enter Tryz.func67, Tryz.ntmps67
 go_wp2_with (first | (go_at_call 101; go_must (refine HC.out.mono ?_; rintro e2 w2 ⟨rfl, rfl⟩)))
 go_ret
 exact ⟨rfl, rfl⟩
end
section
open Go.Extern.Stop Go.Stop Go.Extern
theorem ta_errPF (v : Value) (xT : TypeId) (w : World) : (Instr.typeAssert (.iface 120 v) xT 111 true).run Tryz.prog w = .ok (.tuple #[.iface 120 v, .bool true]) w := run_typeAssert_hasB Tryz.underlying111 (by kernel_rfl) v xT w
theorem ta_errPL (v : Value) (xT : TypeId) (w : World) : (Instr.typeAssert (.iface 166 v) xT 111 true).run Tryz.prog w = .ok (.tuple #[.iface 166 v, .bool true]) w := run_typeAssert_hasB Tryz.underlying111 (by kernel_rfl) v xT w
abbrev asEnd (w : World) (e : Addr) : World := asHit (vB (w.alloc (.cells #[.pointer none] 120)) ⟨w.heap.size, 0, none⟩) ⟨w.heap.size + 1, 0, none⟩ e ⟨w.heap.size, 0, none⟩
theorem asEnd_facts (w : World) (e : Addr) (c : Value) (he : w.cell? e = some c) :
 (asEnd w e).cell? ⟨w.heap.size, 0, none⟩ = some (.pointer (some e)) ∧ (asEnd w e).cell? e = some c ∧ Below w.heap.size w (asEnd w e) := by
 have hb : Below w.heap.size w (asEnd w e) := qg (q8 (q8 (q8 (q8 (q8 (Below.refl _ _) _) _) _) _) _) (Nat.le_refl _);refine ⟨?_, qB hb he, hb⟩;refine World.cell?_setCell_same' _ _ _ ?_;have h0 : (w.alloc (.cells #[.pointer none] 120)).cell? ⟨w.heap.size, 0, none⟩ = some (.pointer none) := (qa (qL w _) 0).trans rfl
 have hs : ∀ (W : World) (o : Obj), (W.alloc o).heap.size = W.heap.size + 1 := fun W o => by show (W.heap.push o).size = _; simp
 have h1 := qB (q8 (q8 (q8 (q8 (Below.refl _ (w.alloc (.cells #[.pointer none] 120))) (.cells #[.pointer (some ⟨w.heap.size, 0, none⟩)] 122)) (.cells #[.pointer (some ⟨7, 122, none⟩), .pointer (some ⟨(w.alloc (.cells #[.pointer none] 120)).heap.size, 0, none⟩), .int .u64 150] 154)) (.cells #[.pointer (some ⟨7, 122, none⟩), .pointer (some ⟨w.heap.size + 1, 0, none⟩), .int .u64 150] 154)) (.cells #[.pointer (some e)] 120)) h0;rw [h1]
 rfl
set_option maxHeartbeats 4000000 in
theorem codeOf_calls (T : TypeId) (u : Value) (hT : T = 120 ∨ T = 166) (e : Addr) (code : Int) (w : World) (hg : ErrT w) (he : w.cell? e = some (.int .i64 code))
 (HI : ∀ W (a t : Addr) (old : Value), Below w.heap.size w W → W.cell? a = some (.pointer (some t)) → W.cell? t = some old → W.frozen? t = false → Calls Tryz.prog 101 #[.iface T u, .iface 122 (.pointer (some t)), asVal a, asTy] W fun ev w' => ev = .returned (.bool true) ∧ w' = asHit W a e t) :
 Calls Tryz.prog 29 #[.iface T u] w fun ev w' => ev = .returned (.int .i64 code) ∧ Below w.heap.size w w' := by
 have aa : (w.alloc (.cells #[.pointer none] 120)).heap.size = w.heap.size + 1 := by show (w.heap.push _).size = _; simp
 have hgA : ErrT (w.alloc (.cells #[.pointer none] 120)) := qB (q8 (Below.refl _ _) _) hg;obtain ⟨c1, c2, hb⟩ := asEnd_facts w e _ he
 have HA := Aside0.mk ((as_calls T u ⟨w.heap.size, 0, none⟩ e (.pointer none) (w.alloc (.cells #[.pointer none] 120)) hgA (by simp) (by simp)
  (fun W a hW ha ht hf => HI W a ⟨w.heap.size, 0, none⟩ (.pointer none) (qy (q8 (Below.refl _ _) _) (by rw [aa]; omega) hW) ha ht hf)).mono (R' := fun ev w' => ev = .returned (.bool true) ∧ w'.cell? ⟨w.heap.size, 0, none⟩ = some (.pointer (some e)) ∧ w'.cell? e = some (.int .i64 code) ∧ Below w.heap.size w w') (by rintro ev w' ⟨rfl, rfl⟩; rw [aa]; exact ⟨rfl, c1, c2, hb⟩))
 clear HI hgA he hb hg c1 c2 aa;have t1 := ta_errPF;have t2 := ta_errPL
 rcases hT with rfl | rfl
 all_goals (
  go_enter Tryz.func29, Tryz.ntmps29
  go_wp2_with (first | (go_at_call 67; go_must (refine HA.out.mono ?_; rintro e2 w2 ⟨rfl, c1, c2, hb⟩; have HB := Aside0.mk hb; clear hb)))
  go_ret
  exact ⟨rfl, HB.out⟩)
theorem codeOf_fault (e : Addr) (code : Int) (w : World) (hg : ErrT w) (he : w.cell? e = some (.int .i64 code)) :
 Calls Tryz.prog 29 #[.iface 120 (.pointer (some e))] w fun ev w' => ev = .returned (.int .i64 code) ∧ Below w.heap.size w w' :=
 codeOf_calls 120 _ (.inl rfl) e code w hg he (fun W a t old _ ha ht hf => as_inner e t a old W ha ht hf)
theorem codeOf_place (p e : Addr) (code : Int) (w : World) (hg : ErrT w) (hp : w.cell? ⟨p.block, p.off + 1, none⟩ = some (.iface 120 (.pointer (some e)))) (he : w.cell? e = some (.int .i64 code)) :
 Calls Tryz.prog 29 #[.iface 166 (.pointer (some p))] w fun ev w' => ev = .returned (.int .i64 code) ∧ Below w.heap.size w w' :=
 codeOf_calls 166 _ (.inr rfl) e code w hg he (fun W a t old hW ha ht hf => as_inner_place p e t a old 0 W (qB hW hp) ha ht hf)
end
end Go.Proofs.YtfmgbgkcmmpcfaaGreatDoor.PTk

