import Derived.Test.YtfmgbgkcmmpcfaaGreatDoorCPTkx0
import Derived.Test.YtfmgbgkcmmpcfaaGreatDoorCPTkx1
namespace Go.Proofs.YtfmgbgkcmmpcfaaGreatDoor.PTk
open Go.RowKit Go.Proofs.YtfmgbgkcmmpcfaaGreatDoorW.PrintWords Go.Proofs.YtfmgbgkcmmpcfaaGreatDoorW.PrintLast Go.Proofs.YtfmgbgkcmmpcfaaGreatDoorW.PrintMore
attribute [local go_sem] zp zC
set_option linter.unusedVariables false
set_option linter.unusedSimpArgs false
structure GT (w : World) : Prop where
 tab : Lib.TabIs Tryz.prog w "internal/strconv.uint64pow10" .u64 Lib.pow10Tab
 maxlen : ∃ m, w.cell? ⟨4, 0, none⟩ = some (.int .i64 m)
theorem tab_below {P : Program} {w w1 : World} {name : String} {k : IntKind} {zs : List Int} (h : Lib.TabIs P w name k zs) (hb : Below w.heap.size w w1) : Lib.TabIs P w1 name k zs := by
 unfold Lib.TabIs World.var? at *
 cases hg : P.globalNamed name with
 | none => simp [hg] at h
 | some g =>
  simp only [hg, Option.bind_some] at h ⊢
  have hlt : g < w.heap.size := by
   rcases Nat.lt_or_ge g w.heap.size with h' | h'
   · exact h'
   · rw [Array.getElem?_eq_none h'] at h; simp at h
  rw [hb.block g hlt]
  exact h
theorem GT.below {w w1 : World} (h : GT w) (hb : Below w.heap.size w w1) : GT w1 :=
 ⟨tab_below h.tab hb, let ⟨m, hm⟩ := h.maxlen; ⟨m, qB hb hm⟩⟩
theorem ret_bool {a b : Bool} (h : a = b) : Ending.returned (.bool a) = .returned (.bool b) := by rw [h]
theorem upL_len (l : List UInt8) : (upL l).length = l.length := by simp [upL]
set_option maxRecDepth 100000 in
theorem xy (s : ByteArray) (w : World) (hs : s.size ≤ 1000000000) (hG : GT w) :
 Calls Tryz.prog 158 #[.string s] w fun e w' => e = .returned (.tuple #[.string (str (upL s.data.toList)), .bool (kwB (upL s.data.toList))]) ∧ Below w.heap.size w w' := by
 have hsz : s.data.toList.length = s.size := by rw [Array.length_toList]; rfl
 have hl := upL_len s.data.toList;rw [hsz] at hl;have HG := Aside0.mk hG;obtain ⟨U, hU⟩ : ∃ U, U = upL s.data.toList := ⟨_, rfl⟩;have HU := Aside0.mk hU;rw [← hU] at hl ⊢;have HK : Aside0 (Lib.contains kwS.data.toList ((⟨#[32]⟩ : ByteArray) ++ str U ++ (⟨#[32]⟩ : ByteArray)).data.toList = kwB U) := ⟨by rw [sp_str]; rfl⟩;have c1 : (9223372036854775807 < 1 + U.length) = False := eq_false (by omega);have c2 : (9223372036854775807 < 1 + U.length + 1) = False := eq_false (by omega);clear hG hU hsz hl
 go_enter Tryz.func158, Tryz.ntmps158
 go_wp2_with (first
  | (go_at_call 176; go_must (refine (turned_calls s 97 122 (-32) _ hs (Or.inr rfl)).mono ?_; rintro e w1 ⟨rfl, hb⟩; rw [show s.data.toList.map (tb 97 122 (-32)) = U from HU.out.symm]; obtain ⟨m, hm⟩ := HG.out.maxlen; have HM := Aside0.mk (qB hb hm); clear hm))
  | (go_at_call 177; go_must (refine (Tryz.strings_Contains kwS _ m _ (by rw [kwS_size]; decide) HM.out).mono ?_; rintro e w2 ⟨rfl, rfl⟩; rw [HK.out])))
 go_ret2
 exact ⟨rfl, hb⟩
def dbl (q : UInt8) (l : List UInt8) : List UInt8 := l.flatMap (fun c => if c = q then [q, q] else [c])
def quoL (q : UInt8) (l : List UInt8) : List UInt8 := q :: (dbl q l ++ [q])
theorem dbl_len (q : UInt8) (l : List UInt8) : (dbl q l).length ≤ 2 * l.length := by
 induction l with
 | nil => simp [dbl]
 | cons c l ih =>
  simp only [dbl, List.flatMap_cons, List.length_append, List.length_cons] at *
  split <;> simp only [List.length_cons, List.length_nil] <;> omega
theorem index_one (q : UInt8) (s : List UInt8) : (q ∉ s ∧ Lib.index s [q] = -1) ∨ ∃ (a b : List UInt8), s = a ++ q :: b ∧ q ∉ a ∧ Lib.index s [q] = (a.length : Int) := by
 induction s with
 | nil => exact Or.inl ⟨by simp, rfl⟩
 | cons x l ih =>
  unfold Lib.index
  by_cases hx : x = q
  · subst hx
    exact Or.inr ⟨[], l, rfl, by simp, by simp [List.isPrefixOf]⟩
  · have hp : ([q] : List UInt8).isPrefixOf (x :: l) = false := by
     simp [List.isPrefixOf]
     exact fun h => hx h.symm
    rw [if_neg (by rw [hp]; simp)]
    rcases ih with ⟨h1, h2⟩ | ⟨a, b, h1, h2, h3⟩
    · left
      refine ⟨by simp only [List.mem_cons, not_or]; exact ⟨fun h => hx h.symm, h1⟩, ?_⟩;rw [h2]
      rfl
    · right
      refine ⟨x :: a, b, by rw [h1]; rfl, by simp only [List.mem_cons, not_or]; exact ⟨fun h => hx h.symm, h2⟩, ?_⟩;rw [h3, if_neg (by simp)]
      simp
theorem dbl_none (q : UInt8) (s : List UInt8) (h : q ∉ s) : dbl q s = s := by
 induction s with
 | nil => rfl
 | cons x l ih =>
  simp only [List.mem_cons, not_or] at h;have := ih h.2;unfold dbl at this ⊢;rw [List.flatMap_cons, this, if_neg (fun e => h.1 e.symm)]
  rfl
theorem dbl_app (q : UInt8) (a b : List UInt8) : dbl q (a ++ b) = dbl q a ++ dbl q b := by
 unfold dbl
 exact List.flatMap_append ..
theorem repK_dbl (q : UInt8) : ∀ (k : Nat) (s : List UInt8), (s.filter (· == q)).length ≤ k → Lib.replaceK [q] [q, q] k s = dbl q s := by
 intro k
 induction k with
 | zero =>
  intro s h
  have : q ∉ s := by
   intro hm;have : q ∈ s.filter (· == q) := List.mem_filter.2 ⟨hm, by simp⟩;have := List.length_pos_of_mem this
   omega
  rw [dbl_none q s this]
  rfl
 | succ k ih =>
  intro s h;unfold Lib.replaceK
  rcases index_one q s with ⟨h1, h2⟩ | ⟨a, b, h1, h2, h3⟩
  · rw [h2, if_pos (by decide), dbl_none q s h1]
  · rw [h3, if_neg (by simp)]
    subst h1
    have e1 : (a ++ q :: b).take ((a.length : Int)).toNat = a := by simp
    have e2 : (a ++ q :: b).drop (((a.length : Int)).toNat + ([q] : List UInt8).length) = b := by
     rw [Int.toNat_natCast, List.length_singleton, List.drop_append]
     simp
    rw [e1, e2, ih b ?_, dbl_app, dbl_none q a h2]
    · simp [dbl]
    · rw [List.filter_append] at h
      simp at h
      omega
theorem repl_dbl (q : UInt8) (l : List UInt8) : Lib.replaceAll l [q] [q, q] = dbl q l := by
 unfold Lib.replaceAll Lib.replace;rw [if_neg (by simp), repK_dbl];unfold Lib.replaceNum;rw [if_pos (by omega), Lib.count_one, List.count_eq_countP, List.countP_eq_length_filter]
 exact Nat.le_refl _
theorem two_q (q : UInt8) : str [q] ++ str [q] = str [q, q] := by
 apply ByteArray.ext
 simp
set_option maxRecDepth 100000 in
theorem vw (s : ByteArray) (q : UInt8) (w : World) (hs : s.size ≤ 1000000000) (hG : GT w) :
 Calls Tryz.prog 162 #[.string s, .string (str [q])] w fun e w' => e = .returned (.string (str (quoL q s.data.toList))) ∧ Below w.heap.size w w' := by
 obtain ⟨m, hm⟩ := hG.maxlen;have HM := Aside0.mk hm;have hl := dbl_len q s.data.toList
 have hsz : s.data.toList.length = s.size := by rw [Array.length_toList]; rfl
 rw [hsz] at hl;obtain ⟨R, hR⟩ : ∃ R, R = dbl q s.data.toList := ⟨_, rfl⟩;have HR := Aside0.mk hR;have HQ : Aside0 (Lib.replaceAll s.data.toList (str [q]).data.toList (str [q] ++ str [q]).data.toList = R) := ⟨by rw [hR, two_q]; exact repl_dbl q _⟩;have aa : Aside0 ((str [q] ++ str [q]).size = 2) := ⟨by rw [two_q]; rfl⟩;have ab : (str [q]).size = 1 := rfl;have HC : Aside0 (Lib.countB s (str [q]) ≤ s.size) := ⟨Lib.countB_le (str [q]) (by rw [ab]; exact Nat.le_refl _) s.size s (Nat.le_refl _)⟩;rw [← hR] at hl;have c1 : (9223372036854775807 < 1 + R.length) = False := eq_false (by omega);have c2 : (9223372036854775807 < 1 + R.length + 1) = False := eq_false (by omega);clear hm hG hR hsz
 go_enter Tryz.func162, Tryz.ntmps162
 go_wp2_with (first
  | (go_at_call 179; go_must (refine (Tryz.strings_ReplaceAll s (str [q]) (str [q] ++ str [q]) m _ (by omega) HM.out (by exact Nat.le_refl 1) (by have := HC.out; rw [aa.out]; omega)).mono ?_; rintro e w1 ⟨rfl, hb⟩; rw [HQ.out])))
 go_ret
 refine ⟨str_eq ?_, hb⟩;have h2 := HR.out;subst h2;show (⟨[q].toArray⟩ : ByteArray) ++ ⟨_⟩ ++ ⟨[q].toArray⟩ = _;rw [app_str, app_str]
 rfl
def xv (r : Nat) : Bool := decide (97 ≤ r ∧ r ≤ 122 ∨ 48 ≤ r ∧ r ≤ 57 ∨ r = 95)
def okB (c : UInt8) : Bool := xv c.toNat
theorem odd_iff (s : ByteArray) : ∀ (f pos : Nat), s.size - pos ≤ f → (0 ≤ Lib.idxFuncFrom (fun r => !xv r) true s f pos ↔ ∃ j, pos ≤ j ∧ ∃ h : j < s.size, okB (s[j]'h) = false) := by
 intro f
 induction f with
 | zero =>
  intro pos h
  constructor
  · intro h2; simp [Lib.idxFuncFrom] at h2
  · rintro ⟨j, h1, h2, _⟩; omega
 | succ f ih =>
  intro pos h;unfold Lib.idxFuncFrom
  by_cases hp : pos < s.size
  · rw [if_pos hp]
    by_cases ha : (s[pos]'hp).toNat < 128
    · rw [decode_ascii s pos hp ha]
      by_cases ho : okB (s[pos]'hp) = true
      · have ab : xv (s[pos]'hp).toNat = true := ho
        rw [if_neg (by rw [ab]; simp)];rw [ih (pos + 1) (by omega)]
        constructor
        · rintro ⟨j, h1, h2⟩; exact ⟨j, by omega, h2⟩
        · rintro ⟨j, h1, h2, h3⟩
          refine ⟨j, ?_, h2, h3⟩
          rcases Nat.lt_or_ge pos j with h4 | h4
          · exact h4
          · obtain rfl : j = pos := by omega
            rw [ho] at h3
            cases h3
      · have ab : xv (s[pos]'hp).toNat = false := by simpa [okB] using ho
        rw [if_pos (by rw [ab]; rfl)]
        constructor
        · intro _; exact ⟨pos, Nat.le_refl _, hp, by simpa using ho⟩
        · intro _; omega
    · obtain ⟨h1, h2⟩ := decode_high s pos hp (by omega)
      have ho : xv (Utf8.decode s pos).1 = false := by
       unfold xv;rw [decide_eq_false_iff_not]
       omega
      rw [if_pos (by rw [ho]; rfl)]
      constructor
      · intro _
        refine ⟨pos, Nat.le_refl _, hp, ?_⟩;unfold okB xv;rw [decide_eq_false_iff_not]
        omega
      · intro _; omega
  · rw [if_neg hp]
    constructor
    · intro h2; omega
    · rintro ⟨j, h1, h2, _⟩; omega
theorem all_ok_iff (s : ByteArray) : s.data.toList.all okB = false ↔ ∃ j, 0 ≤ j ∧ ∃ h : j < s.size, okB (s[j]'h) = false := by
 have hsz : s.data.toList.length = s.size := by rw [Array.length_toList]; rfl
 rw [List.all_eq_false]
 constructor
 · rintro ⟨x, hx, h⟩
   obtain ⟨j, hj, rfl⟩ := List.getElem_of_mem hx;refine ⟨j, Nat.zero_le _, by rw [← hsz]; exact hj, ?_⟩
   have h' : okB (s.data.toList[j]) = false := by simpa using h
   exact h'
 · rintro ⟨j, _, hj, h⟩
   refine ⟨s[j], ?_, by simpa using h⟩
   exact List.getElem_mem (l := s.data.toList) (n := j) (by rw [hsz]; exact hj)
theorem odd_val (s : ByteArray) : decide (0 ≤ Lib.idxFunc (fun r => !xv r) true s) = !(s.data.toList.all okB) := by
 have h1 := odd_iff s s.size 0 (by omega);have h2 := all_ok_iff s;unfold Lib.idxFunc
 cases hb : s.data.toList.all okB with
 | false =>
  rw [decide_eq_true (h1.2 (h2.1 hb))]
  rfl
 | true =>
  rw [decide_eq_false]
  · rfl
  · intro h
    have := h2.2 (h1.1 h);rw [hb] at this
    cases this
set_option maxRecDepth 100000 in
theorem vM (w : World) : PredAtRunes Tryz.prog 160 #[] (fun r => !xv r) w := by
 intro W x hx _;unfold FnGives;show Calls Tryz.prog 160 #[.int .i32 (x : Int)] W _;obtain ⟨B, hB⟩ : ∃ B, B = !xv x := ⟨_, rfl⟩;have HB := Aside0.mk hB
 dsimp only
 rw [← hB];clear hB
 go_enter Tryz.func160, Tryz.ntmps160
 go_wp2
 all_goals go_ret
 all_goals (refine ⟨ret_bool ?_, ⟨0, rfl⟩⟩; rw [HB.out]; unfold xv; rw [Bool.eq_iff_iff]; simp; omega)
def digB (c : UInt8) : Bool := decide (48 ≤ c.toNat ∧ c.toNat ≤ 57)
def vG (l : List UInt8) : List UInt8 := if kwB (upL l) = true ∨ l.all okB = false ∨ digB (l.headD 0) = true then quoL 34 l else l
theorem eg62 : ∀ args w, (callFunc 160 args).run Tryz.prog w = .ok (.enter 160 args) w := enters_of Tryz.func160 (by kernel_rfl) rfl
theorem xf (l : List UInt8) (h : kwB (upL l) = true ∨ l.all okB = false ∨ digB (l.headD 0) = true) : vG l = quoL 34 l := by unfold vG; rw [if_pos h]
theorem nameL_bare (l : List UInt8) (h : ¬ (kwB (upL l) = true ∨ l.all okB = false ∨ digB (l.headD 0) = true)) : vG l = l := by unfold vG; rw [if_neg h]
set_option maxHeartbeats 4000000 in
set_option maxRecDepth 100000 in
theorem shownName_calls (s : ByteArray) (w : World) (hs : s.size ≤ 1000000000) (h0 : 0 < s.size) (hG : GT w) :
 Calls Tryz.prog 125 #[.string s] w fun e w' => e = .returned (.string (str (vG s.data.toList))) ∧ Below w.heap.size w w' := by
 have HG := Aside0.mk hG;have HI := Aside0.mk (odd_val s);obtain ⟨c, hc⟩ : ∃ c, c = s[0]'h0 := ⟨_, rfl⟩
 have af : s.data.toList.headD 0 = c := by
  rw [hc]
  have hl : 0 < s.data.toList.length := by rw [Array.length_toList]; exact h0
  rw [List.headD_eq_head?_getD, List.head?_eq_getElem?, List.getElem?_eq_getElem hl]
  rfl
 have HC := Aside0.mk af;have HCc := Aside0.mk hc.symm;obtain ⟨K, hK⟩ : ∃ K, kwB (upL s.data.toList) = K := ⟨_, rfl⟩;have HK := Aside0.mk hK;clear hc af hK hG
 cases K with
 | true =>
  have HN := Aside0.mk (xf s.data.toList (Or.inl HK.out))
  go_enter Tryz.func125, Tryz.ntmps125
  go_wp2_with (first
   | (go_at_call 158; go_must (refine (xy s _ hs HG.out).mono ?_; rintro e w1 ⟨rfl, hb⟩; rw [HK.out]; have ab := Aside0.mk hb; clear hb))
   | (go_at_call 159; go_must (refine (Tryz.strings_IndexFunc_runes 160 #[] eg62 _ s _ (vM _)).mono ?_; rintro e w2 ⟨rfl, hb⟩; have aa := Aside0.mk (qr ab.out hb); clear hb))
   | (go_at_call 162; go_must (refine (vw s 34 _ hs (HG.out.below aa.out)).mono ?_; rintro e w3 ⟨rfl, hb⟩; rw [← HN.out]; have ac := Aside0.mk (qr aa.out hb); clear hb)))
  go_ret
  exact ⟨rfl, ac.out⟩
 | false =>
  obtain ⟨O, hO⟩ : ∃ O, s.data.toList.all okB = O := ⟨_, rfl⟩;have HO := Aside0.mk hO;rw [hO] at HI;clear hO
  cases O with
  | false =>
   have HN := Aside0.mk (xf s.data.toList (Or.inr (Or.inl HO.out)))
   go_enter Tryz.func125, Tryz.ntmps125
   go_wp2_with (first
    | (go_at_call 158; go_must (refine (xy s _ hs HG.out).mono ?_; rintro e w1 ⟨rfl, hb⟩; rw [HK.out]; have ab := Aside0.mk hb; clear hb))
    | (go_at_call 159; go_must (refine (Tryz.strings_IndexFunc_runes 160 #[] eg62 _ s _ (vM _)).mono ?_; rintro e w2 ⟨rfl, hb⟩; have aa := Aside0.mk (qr ab.out hb); clear hb; have hI := HI.out; generalize Lib.idxFunc (fun r => !xv r) true s = I at hI ⊢; have d1 : decide (0 ≤ I) = true := hI; clear hI))
    | (go_at_call 162; go_must (refine (vw s 34 _ hs (HG.out.below aa.out)).mono ?_; rintro e w3 ⟨rfl, hb⟩; rw [← HN.out]; have ac := Aside0.mk (qr aa.out hb); clear hb)))
   go_ret
   exact ⟨rfl, ac.out⟩
  | true =>
   have e0 : (s[0]'h0).toNat = c.toNat := by rw [HCc.out]
   have h0' : 0 < (s.size : Int) := by omega
   obtain ⟨D, hD⟩ : ∃ D, digB c = D := ⟨_, rfl⟩
   have HD : Aside0 (zZ.f (c.toNat : Int) = some D) := ⟨by
    unfold zZ.f;rw [← hD];unfold digB
    by_cases h1 : 48 ≤ (c.toNat : Int)
    · rw [if_pos h1]; congr 1; rw [decide_eq_decide]; omega
    · rw [if_neg h1]; congr 1; symm; rw [decide_eq_false_iff_not]; omega⟩
   have ag := Aside0.mk hD;clear hD
   cases D with
   | true =>
    have HN := Aside0.mk (xf s.data.toList (Or.inr (Or.inr (by rw [HC.out]; exact ag.out))))
    go_enter Tryz.func125, Tryz.ntmps125
    go_wp2_with (first
     | (go_at_call 158; go_must (refine (xy s _ hs HG.out).mono ?_; rintro e w1 ⟨rfl, hb⟩; rw [HK.out]; have ab := Aside0.mk hb; clear hb))
     | (go_at_call 159; go_must (refine (Tryz.strings_IndexFunc_runes 160 #[] eg62 _ s _ (vM _)).mono ?_; rintro e w2 ⟨rfl, hb⟩; have aa := Aside0.mk (qr ab.out hb); clear hb; have hI := HI.out; generalize Lib.idxFunc (fun r => !xv r) true s = I at hI ⊢; have d1 : decide (0 ≤ I) = false := hI; clear hI))
     | (go_at_call 161; go_must (refine (zZ.calls (c.toNat : Int) true _ HD.out).mono ?_; rintro e w4 ⟨rfl, hd⟩; have ae := Aside0.mk (qr aa.out hd.below); clear hd))
     | (go_at_call 162; go_must (refine (vw s 34 _ hs (HG.out.below ae.out)).mono ?_; rintro e w3 ⟨rfl, hb⟩; rw [← HN.out]; have ac := Aside0.mk (qr ae.out hb); clear hb)))
    go_ret
    exact ⟨rfl, ac.out⟩
   | false =>
    have HN := Aside0.mk (nameL_bare s.data.toList (by rintro (h | h | h); · rw [HK.out] at h; cases h
                                                       · rw [HO.out] at h; cases h
                                                       · rw [HC.out, ag.out] at h; cases h))
    go_enter Tryz.func125, Tryz.ntmps125
    go_wp2_with (first
     | (go_at_call 158; go_must (refine (xy s _ hs HG.out).mono ?_; rintro e w1 ⟨rfl, hb⟩; rw [HK.out]; have ab := Aside0.mk hb; clear hb))
     | (go_at_call 159; go_must (refine (Tryz.strings_IndexFunc_runes 160 #[] eg62 _ s _ (vM _)).mono ?_; rintro e w2 ⟨rfl, hb⟩; have aa := Aside0.mk (qr ab.out hb); clear hb; have hI := HI.out; generalize Lib.idxFunc (fun r => !xv r) true s = I at hI ⊢; have d1 : decide (0 ≤ I) = false := hI; clear hI))
     | (go_at_call 161; go_must (refine (zZ.calls (c.toNat : Int) false _ HD.out).mono ?_; rintro e w4 ⟨rfl, hd⟩; have ae := Aside0.mk (qr aa.out hd.below); clear hd)))
    go_ret
    exact ⟨str_eq (by rw [HN.out, str_of]), ae.out⟩
theorem below_growN (w : World) (k : Nat) (os : Array Obj) : Below w.heap.size w (Sort.grow (w.drewN k) os) := by
 refine ⟨rfl, rfl, rfl, ?_, fun i hi => ?_⟩
 · show w.heap.size ≤ (w.heap ++ os).size
   simp
 · show (w.heap ++ os)[i]? = _
   rw [Array.getElem?_append_left (by omega)]
theorem fmt_calls (n : Int) (h0 : -9223372036854775808 ≤ n) (h1 : n ≤ 9223372036854775807) (w : World) (hG : GT w) :
 Calls Tryz.prog 45 #[.int .i64 n, .int .i64 10] w fun e w' => e = .returned (.string (str (Lib.itoa n))) ∧ Below w.heap.size w w' :=
 (Tryz.strconv_FormatInt_10 n h0 h1 w hG.tab).mono (by rintro e w' ⟨rfl, k, os, rfl⟩; exact ⟨rfl, below_growN w k os⟩)
def leafL (op num : Int) (text : List UInt8) : List UInt8 :=
 if op = 1 then Lib.itoa num else if op = 2 then quoL 39 text else if op = 3 then [78, 85, 76, 76] else if op = 4 then [84, 82, 85, 69] else if op = 5 then [70, 65, 76, 83, 69] else vG text
set_option maxHeartbeats 4000000 in
set_option maxRecDepth 100000 in
theorem leaf_calls (op n num : Int) (text : ByteArray) (w : World) (hop : 1 ≤ op ∧ op ≤ 6) (hn : -9223372036854775808 ≤ num ∧ num ≤ 9223372036854775807) (ht : text.size ≤ 1000000000) (h6 : op = 6 → 0 < text.size) (hG : GT w) :
 Calls Tryz.prog 182 #[.agg #[.int .i64 op, .int .i64 n, .int .i64 num, .string text]] w fun e w' => e = .returned (.string (str (leafL op num text.data.toList))) ∧ Below w.heap.size w w' := by
 have HB := Aside0.mk (q8 (Below.refl w.heap.size w) (.cells #[.int .i64 op, .int .i64 n, .int .i64 num, .string text] 86));have HG := Aside0.mk (hG.below HB.out);have HF := Aside0.mk (fun {w1 : World} (hb : Below (w.alloc (.cells #[.int .i64 op, .int .i64 n, .int .i64 num, .string text] 86)).heap.size (w.alloc (.cells #[.int .i64 op, .int .i64 n, .int .i64 num, .string text] 86)) w1) => (qy HB.out (by simp) hb : Below w.heap.size w w1));have ab := Aside0.mk h6;clear hG h6
 have hcase : op = 1 ∨ op = 2 ∨ op = 3 ∨ op = 4 ∨ op = 5 ∨ op = 6 := by omega
 clear hop
 rcases hcase with rfl | rfl | rfl | rfl | rfl | rfl
 · go_enter Tryz.func182, Tryz.ntmps182
   go_wp2_with (first | (go_at_call 45; go_must (refine (fmt_calls num hn.1 hn.2 _ HG.out).mono ?_; rintro e w1 ⟨rfl, hb⟩)))
   go_ret
   exact ⟨rfl, HF.out hb⟩
 · go_enter Tryz.func182, Tryz.ntmps182
   go_wp2_with (first | (go_at_call 162; go_must (refine (vw text 39 _ ht HG.out).mono ?_; rintro e w1 ⟨rfl, hb⟩)))
   go_ret
   exact ⟨rfl, HF.out hb⟩
 · go_enter Tryz.func182, Tryz.ntmps182
   go_wp2
   go_ret
   exact ⟨rfl, HB.out⟩
 · go_enter Tryz.func182, Tryz.ntmps182
   go_wp2
   go_ret
   exact ⟨rfl, HB.out⟩
 · go_enter Tryz.func182, Tryz.ntmps182
   go_wp2
   go_ret
   exact ⟨rfl, HB.out⟩
 · go_enter Tryz.func182, Tryz.ntmps182
   go_wp2_with (first | (go_at_call 125; go_must (refine (shownName_calls text _ ht (ab.out rfl) HG.out).mono ?_; rintro e w1 ⟨rfl, hb⟩)))
   go_ret
   exact ⟨rfl, HF.out hb⟩
abbrev Tr := S130
abbrev Nd := S86
def zI (op : Int) : Bool := decide (25 ≤ op ∧ op ≤ 27)
def kid (ks : List Tr) (i : Nat) : Tr := ks.getD i z130
def sug (t : Tr) : Bool := decide (t.f0.f0 = 8) && zI (kid t.f1 0).f0.f0
def lvlI (op : Int) : Int := if op = 24 then 1 else if op = 23 then 2 else if op = 16 then 5 else if op = 11 ∨ op = 12 then 6 else if op = 13 ∨ op = 14 ∨ op = 15 then 7 else 4
def levI (t : Tr) : Int :=
 if t.f0.f0 ≤ 6 then 9 else if t.f0.f0 = 7 then 8 else if t.f0.f0 = 8 then (if sug t = true then 4 else 3) else if t.f0.f0 = 9 ∨ t.f0.f0 = 10 then 4 else if t.f0.f0 ≤ 24 then lvlI t.f0.f0 else if t.f0.f0 ≤ 27 then 4 else 9
def zu (op : Int) (k : Nat) : Int :=
 if op = 24 then 1 + k else if op = 23 then 2 + k else if op = 8 then 3 else if op = 27 then (if 0 < k then 1 else 5) else if (17 ≤ op ∧ op ≤ 22) ∨ op = 9 ∨ op = 10 ∨ op = 26 ∨ op = 25 then 5 else if op = 16 then 5 + k
 else if op = 11 ∨ op = 12 then 6 + k else if op = 13 ∨ op = 14 ∨ op = 15 then 7 + k else if op = 7 then 8 else 1
def vf (op : Int) : List UInt8 :=
 if op = 11 then [43] else if op = 12 then [45] else if op = 13 then [42] else if op = 14 then [47] else if op = 15 then [37] else if op = 16 then [124, 124] else if op = 17 then [61] else if op = 18 then [60, 62] else if op = 19 then [60] else if op = 20 then [60, 61] else if op = 21 then [62] else if op = 22 then [62, 61] else if op = 23 then [65, 78, 68] else [79, 82]
def opd (want : Int) (t : Tr) (s : List UInt8) : List UInt8 := if levI t < want then 40 :: (s ++ [41]) else s
abbrev Tx := List UInt8 × List UInt8
def txt (ss : List Tx) (i : Nat) : Tx := ss.getD i ([], [])
def opn (x : Nd) (ks : List Tr) (ss : List Tx) (i : Nat) : List UInt8 := opd (zu x.f0 i) (kid ks i) (txt ss i).1
def lstL : List (Tr × Tx) → List UInt8
 | [] => []
 | p :: r => opd 1 p.1 p.2.1 ++ r.flatMap (fun q => 44 :: 32 :: opd 1 q.1 q.2.1)
def whenL : List (Tr × Tx) → List UInt8
 | [] => []
 | [p] => [32, 87, 72, 69, 78, 32] ++ opd 1 p.1 p.2.1
 | p :: q :: r => [32, 87, 72, 69, 78, 32] ++ opd 1 p.1 p.2.1 ++ [32, 84, 72, 69, 78, 32] ++ opd 1 q.1 q.2.1 ++ whenL r
def zb (nt : List UInt8) (x : Nd) (ks : List Tr) (ss : List Tx) : List UInt8 :=
 if x.f0 ≤ 6 then leafL x.f0 x.f2 x.f3.data.toList
 else if x.f0 = 7 then 45 :: ((if (kid ks 0).f0.f0 = 7 then [32] else []) ++ opn x ks ss 0)
 else if x.f0 = 8 then (if zI (kid ks 0).f0.f0 = true then (txt ss 0).2 else [78, 79, 84, 32] ++ opn x ks ss 0)
 else if x.f0 = 9 then opn x ks ss 0 ++ [32, 73, 83, 32, 78, 85, 76, 76]
 else if x.f0 = 10 then opn x ks ss 0 ++ [32, 73, 83, 32, 78, 79, 84, 32, 78, 85, 76, 76]
 else if x.f0 ≤ 24 then opn x ks ss 0 ++ ([32] ++ vf x.f0 ++ [32]) ++ opn x ks ss 1
 else if x.f0 = 25 then opn x ks ss 0 ++ nt ++ [32, 76, 73, 75, 69, 32] ++ opn x ks ss 1
 else if x.f0 = 26 then opn x ks ss 0 ++ nt ++ [32, 66, 69, 84, 87, 69, 69, 78, 32] ++ opn x ks ss 1 ++ [32, 65, 78, 68, 32] ++ opn x ks ss 2
 else if x.f0 = 27 then opn x ks ss 0 ++ nt ++ [32, 73, 78, 32, 40] ++ lstL ((ks.zip ss).drop 1) ++ [41]
 else if x.f0 = 28 then [67, 65, 83, 69] ++ whenL ((ks.zip ss).take (ks.length - 1)) ++ [32, 69, 76, 83, 69, 32] ++ opn x ks ss (ks.length - 1) ++ [32, 69, 78, 68]
 else x.f3.data.toList ++ [40] ++ lstL (ks.zip ss) ++ [41]
mutual
def shw : Tr → Tx
 | ⟨x, ks⟩ => (zb [] x ks (shws ks), zb [32, 78, 79, 84] x ks (shws ks))
def shws : List Tr → List Tx
 | [] => []
 | t :: ts => shw t :: shws ts
end
def opdD (want : Int) (t : Tr) (d : Nat) : Nat := if levI t < want then 1 + d else d
def xi (op : Int) (k : Nat) : Nat := if op = 8 ∨ op = 7 ∨ op = 28 ∨ op = 29 ∨ (op = 27 ∧ 0 < k) then 1 else 0
def maxD (x : Nd) : Nat → List (Tr × Nat) → Nat
 | _, [] => 0
 | k, p :: r => max (opdD (zu x.f0 k) p.1 p.2 + xi x.f0 k) (maxD x (k + 1) r)
mutual
def dep : Tr → Nat
 | ⟨x, ks⟩ => if x.f0 = 8 ∧ zI (kid ks 0).f0.f0 = true then (deps ks).getD 0 0 else maxD x 0 (ks.zip (deps ks))
def deps : List Tr → List Nat
 | [] => []
 | t :: ts => dep t :: deps ts
end
mutual
def zS : Tr → Nat
 | ⟨_, ks⟩ => zD ks + 1
def zD : List Tr → Nat
 | [] => 0
 | t :: ts => zS t + zD ts
end
theorem shws_len : ∀ ks : List Tr, (shws ks).length = ks.length
 | [] => rfl
 | t :: ts => by simp [shws, shws_len ts]
theorem deps_len : ∀ ks : List Tr, (deps ks).length = ks.length
 | [] => rfl
 | t :: ts => by simp [deps, deps_len ts]
theorem xS : ∀ (ks : List Tr) (i : Nat) (h : i < ks.length), txt (shws ks) i = shw ks[i]
 | t :: ts, 0, _ => by simp [shws, txt]
 | t :: ts, i + 1, h => by
  have := xS ts i (by simpa using h)
  simpa [shws, txt] using this
theorem deps_at : ∀ (ks : List Tr) (i : Nat) (h : i < ks.length), (deps ks).getD i 0 = dep ks[i]
 | t :: ts, 0, _ => by simp [deps]
 | t :: ts, i + 1, h => by
  have := deps_at ts i (by simpa using h)
  simpa [deps] using this
theorem vd (ks : List Tr) (i : Nat) (h : i < ks.length) : kid ks i = ks[i] := by simp [kid, h]
theorem nodes_at : ∀ (ks : List Tr) (i : Nat) (h : i < ks.length), zS ks[i] ≤ zD ks
 | t :: ts, 0, _ => by simp [zD]
 | t :: ts, i + 1, h => by
  have := nodes_at ts i (by simpa using h);simp only [List.getElem_cons_succ, zD]
  omega
theorem nodes_pos (t : Tr) : 1 ≤ zS t := by cases t; simp [zS]
theorem lev_atom (s : ByteArray) (w : World) : Calls Tryz.prog 249 #[.string s] w fun e w' => e = .returned (.int .i64 9) ∧ Below w.heap.size w w' := by
 go_enter Tryz.func249, Tryz.ntmps249
 go_wp2
 go_ret
 exact ⟨rfl, by first | exact Below.refl _ _ | exact q8 (Below.refl _ _) _⟩
theorem lev_called (a b : Value) (w : World) : Calls Tryz.prog 255 #[.agg #[a, b]] w fun e w' => e = .returned (.int .i64 9) ∧ Below w.heap.size w w' := by
 go_enter Tryz.func255, Tryz.ntmps255
 go_wp2
 go_ret
 exact ⟨rfl, by first | exact Below.refl _ _ | exact q8 (Below.refl _ _) _⟩
theorem lev_choice (a : Value) (w : World) : Calls Tryz.prog 254 #[.agg #[a]] w fun e w' => e = .returned (.int .i64 9) ∧ Below w.heap.size w w' := by
 go_enter Tryz.func254, Tryz.ntmps254
 go_wp2
 go_ret
 exact ⟨rfl, by first | exact Below.refl _ _ | exact q8 (Below.refl _ _) _⟩
theorem lev_nullness (a b : Value) (w : World) : Calls Tryz.prog 252 #[.agg #[a, b]] w fun e w' => e = .returned (.int .i64 4) ∧ Below w.heap.size w w' := by
 go_enter Tryz.func252, Tryz.ntmps252
 go_wp2
 go_ret
 exact ⟨rfl, by first | exact Below.refl _ _ | exact q8 (Below.refl _ _) _⟩
theorem lev_matched (a b c : Value) (w : World) : Calls Tryz.prog 250 #[.agg #[a, b, c]] w fun e w' => e = .returned (.int .i64 4) ∧ Below w.heap.size w w' := by
 go_enter Tryz.func250, Tryz.ntmps250
 go_wp2
 go_ret
 exact ⟨rfl, by first | exact Below.refl _ _ | exact q8 (Below.refl _ _) _⟩
theorem lev_binary (a : Value) (l : Int) (b c : Value) (w : World) : Calls Tryz.prog 253 #[.agg #[a, .int .i64 l, b, c]] w fun e w' => e = .returned (.int .i64 l) ∧ Below w.heap.size w w' := by
 go_enter Tryz.func253, Tryz.ntmps253
 go_wp2
 go_ret
 exact ⟨rfl, q8 (Below.refl _ _) _⟩
theorem lev_ahead (op : Int) (b : Value) (w : World) : Calls Tryz.prog 251 #[.agg #[.int .i64 op, b]] w fun e w' => e = .returned (.int .i64 (if op = 8 then 3 else 8)) ∧ Below w.heap.size w w' := by
 by_cases h : op = 8
 · rw [if_pos h]
   have h1 : (op == 8) = true := by simpa using h
   clear h
   go_enter Tryz.func251, Tryz.ntmps251
   go_wp2
   go_ret
   exact ⟨rfl, q8 (Below.refl _ _) _⟩
 · rw [if_neg h]
   have h1 : (op == 8) = false := by simpa using h
   clear h
   go_enter Tryz.func251, Tryz.ntmps251
   go_wp2
   go_ret
   exact ⟨rfl, q8 (Below.refl _ _) _⟩
structure LevelAt (v : Value) (l : Int) (T : Nat) (u : Value) (K : Nat) (rv : Value) : Prop where
 val : v = .iface T u
 meth : ∀ w : World, (method 424 T u "strata/tongue.level").run Tryz.prog w = .ok (K, rv) w
 enter : ∀ (args : Array Value) (w : World), (callFunc K args).run Tryz.prog w = .ok (.enter K args) w
 calls : ∀ w : World, Calls Tryz.prog K #[rv] w fun e w' => e = .returned (.int .i64 l) ∧ Below w.heap.size w w'
def xD (v : Value) (l : Int) : Prop := ∃ T u K rv, LevelAt v l T u K rv
theorem has_atom (s : ByteArray) : xD (.iface 260 (.string s)) 9 :=
 ⟨_, _, 249, .string s, rfl, fun _ => by kernel_rfl, enters_of Tryz.func249 (by kernel_rfl) rfl, lev_atom s⟩
theorem has_called (a b : Value) : xD (.iface 277 (.agg #[a, b])) 9 :=
 ⟨_, _, 255, .agg #[a, b], rfl, fun _ => by kernel_rfl, enters_of Tryz.func255 (by kernel_rfl) rfl, lev_called a b⟩
theorem has_choice (a : Value) : xD (.iface 273 (.agg #[a])) 9 :=
 ⟨_, _, 254, .agg #[a], rfl, fun _ => by kernel_rfl, enters_of Tryz.func254 (by kernel_rfl) rfl, lev_choice a⟩
theorem has_nullness (a b : Value) : xD (.iface 268 (.agg #[a, b])) 4 :=
 ⟨_, _, 252, .agg #[a, b], rfl, fun _ => by kernel_rfl, enters_of Tryz.func252 (by kernel_rfl) rfl, lev_nullness a b⟩
theorem has_matched (a b c : Value) : xD (.iface 263 (.agg #[a, b, c])) 4 :=
 ⟨_, _, 250, .agg #[a, b, c], rfl, fun _ => by kernel_rfl, enters_of Tryz.func250 (by kernel_rfl) rfl, lev_matched a b c⟩
theorem has_binary (a : Value) (l : Int) (b c : Value) : xD (.iface 271 (.agg #[a, .int .i64 l, b, c])) l :=
 ⟨_, _, 253, .agg #[a, .int .i64 l, b, c], rfl, fun _ => by kernel_rfl, enters_of Tryz.func253 (by kernel_rfl) rfl, lev_binary a l b c⟩
theorem has_ahead (op : Int) (b : Value) : xD (.iface 266 (.agg #[.int .i64 op, b])) (if op = 8 then 3 else 8) :=
 ⟨_, _, 251, .agg #[.int .i64 op, b], rfl, fun _ => by kernel_rfl, enters_of Tryz.func251 (by kernel_rfl) rfl, lev_ahead op b⟩
def WA (B b : Nat) (p : Value) (l : List UInt8) (d m : Int) (w : World) : Prop :=
 B ≤ b ∧ ∃ v, w.heap[b]? = some (.cells #[p, v, .int .i64 d, .int .i64 m] 231 (0, 0)) ∧ w.ownsRowF B 5 1 v (Lib.byteCells l).length (Lib.byteCells l) ∧ v.ownBlock ≠ some b
def IsW (B b : Nat) (l : List UInt8) (d m : Int) (w : World) : Prop := WA B b (.pointer none) l d m w ∨ WA B b (.pointer (some ⟨b, 0, none⟩)) l d m w
theorem WA.lt {B b : Nat} {p : Value} {l : List UInt8} {d m : Int} {w : World} (h : WA B b p l d m w) : b < w.heap.size := by
 obtain ⟨_, v, hb, _⟩ := h
 exact zv hb
theorem WA.below {B b : Nat} {p : Value} {l : List UInt8} {d m : Int} {w w1 : World} (h : WA B b p l d m w) (hb : Below w.heap.size w w1) : WA B b p l d m w1 := by
 have hk := hb.block b h.lt;have hg : w.grownBy w1 none := ⟨hb.os, hb.tape, hb.output, hb.size, fun k hk _ => hb.block k hk⟩;obtain ⟨h1, v, hv, hown, hne⟩ := h
 exact ⟨h1, v, hk.trans hv, hown.kept hg (Classical.em _), hne⟩
theorem IsW.below {B b : Nat} {l : List UInt8} {d m : Int} {w w1 : World} (h : IsW B b l d m w) (hb : Below w.heap.size w w1) : IsW B b l d m w1 := h.imp (·.below hb) (·.below hb)
theorem IsW.lt {B b : Nat} {l : List UInt8} {d m : Int} {w : World} (h : IsW B b l d m w) : b < w.heap.size := h.elim (·.lt) (·.lt)
theorem WA.put {B b : Nat} {p v v' : Value} {l' : List UInt8} {d m : Int} {w : World} (hB : B ≤ b) (hb : w.heap[b]? = some (.cells #[p, v, .int .i64 d, .int .i64 m] 231 (0, 0))) (hown : w.ownsRowF B 5 1 v' (Lib.byteCells l').length (Lib.byteCells l')) :
 WA B b p l' d m (w.setCell ⟨b, 1, none⟩ v') := by
 have hne := Lib.ownBlock_neF hown hb (by decide);refine ⟨hB, v', qS hb 1 v' rfl, ?_, hne⟩
 exact hown.kept (row := some b) ⟨rfl, rfl, rfl, by simp [World.setCell], fun k _ hk => Below.heap_setCell _ _ _ _ (fun e => hk (by simp [e]))⟩ (Or.inr hne)
theorem WA.num {B b : Nat} {p : Value} {l : List UInt8} {d m : Int} {w : World} (h : WA B b p l d m w) (j : Nat) (u : Value) {p' : Value} {d' m' : Int} (hj : ∀ v, (#[p, v, .int .i64 d, .int .i64 m] : Array Value).setIfInBounds j u = #[p', v, .int .i64 d', .int .i64 m']) : WA B b p' l d' m' (w.setCell ⟨b, j, none⟩ u) := by
 obtain ⟨hB, v, hb, hown, hne⟩ := h;refine ⟨hB, v, qS hb j u (hj v), ?_, hne⟩
 exact hown.kept (row := some b) ⟨rfl, rfl, rfl, by simp [World.setCell], fun k _ hk => Below.heap_setCell _ _ _ _ (fun e => hk (by simp [e]))⟩ (Or.inr hne)
theorem infoByte : (Tryz.prog.info? 5).map (fun i => (i.zero, i.size, i.bytes)) = some (some (.int .u8 0), 1, 1) := by kernel_rfl
theorem sizeBld : (Tryz.prog.info? 68).map (·.size) = some 2 := by kernel_rfl
theorem liesW : liesAt Tryz.prog Tryz.prog.depth 231 (4 / Tryz.prog.cellsOf 231) 0 68 1 = true := by kernel_rfl
set_option maxRecDepth 100000 in
theorem copy_used (b : Nat) (w : World) (h0 : w.cell? ⟨b, 0, none⟩ = some (.pointer (some ⟨b, 0, none⟩))) :
 Calls Tryz.prog 91 #[.pointer (some ⟨b, 0, none⟩)] w fun e w' => e = .returned (.tuple #[]) ∧ w' = w := by
 have mixed : Tryz.prog.follows .mixedOrders = true := by kernel_rfl
 obtain ⟨j, hj, _⟩ := Option.map_eq_some_iff.1 sizeBld
 go_enter Tryz.func91, Tryz.ntmps91
 go_wp2;rw [Lib.run_neq_ptr_same w _ Tryz.underlying65 hj];go_wp2
 go_end0
 exact ⟨rfl, rfl⟩
set_option maxRecDepth 100000 in
theorem copy_fresh (b : Nat) (w : World) (h0 : w.cell? ⟨b, 0, none⟩ = some (.pointer none)) (hsh : w.shape? b = some (231, 4)) (hfz : w.frozen? ⟨b, 0, none⟩ = false) :
 Calls Tryz.prog 91 #[.pointer (some ⟨b, 0, none⟩)] w fun e w' => e = .returned (.tuple #[]) ∧ w' = w.setCell ⟨b, 0, none⟩ (.pointer (some ⟨b, 0, none⟩)) := by
 obtain ⟨j, hj, hjs⟩ := Option.map_eq_some_iff.1 sizeBld
 go_enter Tryz.func91, Tryz.ntmps91
 go_wp2;rw [Lib.run_to_unsafe w ⟨b, 0, none⟩ Tryz.underlying65 Tryz.underlying151 hj (by rw [hjs]; decide) hsh (Nat.zero_lt_succ 3)];simp only [Result.andThen];rw [Oper.upon_value];go_wp2;rw [run_callFunc_extern Tryz.func141 (by kernel_rfl) (by kernel_rfl) (by kernel_rfl) (e := Extern.AbiNoEscape.same) (by kernel_rfl)];rw [Lib.run_noEscape];simp only [Result.andThen];rw [Oper.upon_value];go_wp2;rw [Lib.run_from_unsafe w ⟨b, 0, none⟩ Tryz.underlying151 Tryz.underlying65 hj hsh liesW];simp only [Result.andThen];rw [Oper.upon_value];go_wp2
 go_end0
 exact ⟨rfl, rfl⟩
theorem copy_calls (B b : Nat) (l : List UInt8) (d m : Int) (w : World) (h : IsW B b l d m w) :
 Calls Tryz.prog 91 #[.pointer (some ⟨b, 0, none⟩)] w fun e w' => e = .returned (.tuple #[]) ∧ (WA B b (.pointer (some ⟨b, 0, none⟩)) l d m w' ∧ Below B w w' ∧ Lib.OthersKept 5 (some b) w w') := by
 rcases h with h | h
 · obtain ⟨hB, v, hb, hown, hne⟩ := h
   refine (copy_fresh b w ((qa hb 0).trans rfl) (by simp [World.shape?, hb]) (qc hb 0)).mono ?_
   rintro e w' ⟨rfl, rfl⟩
   exact ⟨rfl, WA.num ⟨hB, v, hb, hown, hne⟩ 0 _ (fun _ => rfl), (Below.refl B w).setCell (p := ⟨b, 0, none⟩) hB _, (Lib.OthersKept.refl _ _ w).setCell ⟨b, 0, none⟩ rfl _⟩
 · obtain ⟨hB, v, hb, hown, hne⟩ := h
   refine (copy_used b w ((qa hb 0).trans rfl)).mono ?_
   rintro e w' ⟨rfl, rfl⟩
   exact ⟨rfl, ⟨hB, v, hb, hown, hne⟩, Below.refl B _, Lib.OthersKept.refl _ _ _⟩
def wOut (B b : Nat) (l : List UInt8) (d m : Int) (w w' : World) : Prop := IsW B b l d m w' ∧ Below B w w' ∧ Lib.OthersKept 5 (some b) w w'
set_option maxRecDepth 100000 in
set_option maxHeartbeats 2000000 in
theorem wbyte_calls (B b : Nat) (l : List UInt8) (d m : Int) (c : UInt8) (w : World) (h : IsW B b l d m w) (hlen : l.length + 1 ≤ 140737488355328) (hBw : B ≤ w.heap.size) :
 Calls Tryz.prog 173 #[.pointer (some ⟨b, 0, none⟩), .int .u8 (c.toNat : Int)] w fun e w' => e = .returned .nilIface ∧ wOut B b (l ++ [c]) d m w w' := by
 obtain ⟨i0, hi, ac, ae, af⟩ := info_parts infoByte
 have mixed : Tryz.prog.follows .mixedOrders = true := by kernel_rfl
 have hl : (Lib.byteCells l).length = l.length := by simp [Lib.byteCells]
 go_enter Tryz.func173, Tryz.ntmps173
 go_wp2_with (go_at_call 91; refine (copy_calls B b l d m _ h).mono ?_)
 rintro e w1 ⟨rfl, h1, aa, ag⟩
 obtain ⟨hB, v, hbk, hown, hne⟩ := h1
 have c0 : w1.cell? ⟨b, 0, none⟩ = some (.pointer (some ⟨b, 0, none⟩)) := by rw [Lib.cell_of_heap hbk]; rfl
 have c1 : w1.cell? ⟨b, 1, none⟩ = some v := by rw [Lib.cell_of_heap hbk]; rfl
 go_wp2_with (at_builtin; refine wpList_append_ownF _ rfl _ _ 66 rfl B 5 i0 (.int .u8 0) 1 1 Tryz.underlying66 hi ac ae af rfl (by decide) _ _ _ rfl (hown.alloc _) ⟨w1.heap.size, 0, none⟩ 1 1 [.int .u8 (c.toNat : Int)] rfl rfl ?c1 ?c2 ?c3 ?c4 ?c5 ?_)
 case c1 =>
  intro j u hj
  match j, hj with
  | 0, hj => simp at hj; subst hj; simp [Addr.add]
 case c2 => intro u hu; simp at hu; subst hu; rfl
 case c3 => unfold maxLen; omega
 case c4 => omega
 case c5 => have := aa.size; simp; omega
 intro v' w2 hown' hgrow _
 have hlt : b < w1.heap.size := by
  rcases Nat.lt_or_ge b w1.heap.size with h' | h'
  · exact h'
  · simp [Array.getElem?_eq_none h'] at hbk
 have ab : w2.heap[b]? = some (.cells #[.pointer (some ⟨b, 0, none⟩), v, .int .i64 d, .int .i64 m] 231 (0, 0)) := by
  rw [hgrow.block b (by simp; omega) (fun e => hne e.symm), Lib.alloc_old w1 _ b hlt]
  exact hbk
 have d0 : w2.cell? ⟨b, 0, none⟩ = some (.pointer (some ⟨b, 0, none⟩)) := by rw [Lib.cell_of_heap ab]; rfl
 have d1 : w2.cell? ⟨b, 1, none⟩ = some v := by rw [Lib.cell_of_heap ab]; rfl
 have f1 : w2.frozen? ⟨b, 1, none⟩ = false := Lib.frozen_of_heap ab 1
 obtain ⟨g, cap, rfl⟩ : ∃ g cap, v' = .slice (some ⟨g, 0, none⟩) (l.length + 1) cap := by
  rcases hown'.2 with ⟨_, h0⟩ | ⟨g, cap, cur, fz, hv, _⟩
  · omega
  · exact ⟨g, cap, hv⟩
 go_wp2
 go_ret
 refine ⟨rfl, Or.inr ?_, ?_, ((ag.alloc _).grown hgrow (Lib.ownsRowF_kind (hown.alloc _))).setCell ⟨b, 1, none⟩ rfl _⟩
 · exact WA.put hB ab (by simpa [Lib.byteCells] using hown')
 · exact ((aa.alloc (by have := aa.size; omega) _).grown hgrow (by have := aa.size; simp; omega) (fun k hk => (hown.lt k hk).1)).setCell (p := ⟨b, 1, none⟩) hB _
set_option maxRecDepth 100000 in
set_option maxHeartbeats 2000000 in
theorem wstr_calls (B b : Nat) (l : List UInt8) (d m : Int) (s : ByteArray) (w : World) (h : IsW B b l d m w) (hlen : l.length + s.size ≤ 140737488355328) (hBw : B ≤ w.heap.size) :
 Calls Tryz.prog 62 #[.pointer (some ⟨b, 0, none⟩), .string s] w fun e w' => e = .returned (.tuple #[.int .i64 s.size, .nilIface]) ∧ wOut B b (l ++ s.data.toList) d m w w' := by
 obtain ⟨i0, hi, ac, ae, af⟩ := info_parts infoByte
 have mixed : Tryz.prog.follows .mixedOrders = true := by kernel_rfl
 have hl : (Lib.byteCells l).length = l.length := by simp [Lib.byteCells]
 go_enter Tryz.func62, Tryz.ntmps62
 go_wp2_with (go_at_call 91; refine (copy_calls B b l d m _ h).mono ?_)
 rintro e w1 ⟨rfl, h1, ab, ag⟩
 obtain ⟨hB, v, hbk, hown, hne⟩ := h1
 have c0 : w1.cell? ⟨b, 0, none⟩ = some (.pointer (some ⟨b, 0, none⟩)) := by rw [Lib.cell_of_heap hbk]; rfl
 have c1 : w1.cell? ⟨b, 1, none⟩ = some v := by rw [Lib.cell_of_heap hbk]; rfl
 go_wp2_with (at_builtin; refine Lib.wpList_append_own_stringF _ rfl _ _ 66 9 rfl B 5 i0 Tryz.underlying66 Tryz.underlying9 hi ac ae af _ _ _ rfl hown s rfl ?c3 ?c4 ?c5 ?_)
 case c3 => unfold maxLen; omega
 case c4 => omega
 case c5 => have := ab.size; omega
 intro v' w2 hown' hgrow _
 have hlt : b < w1.heap.size := by
  rcases Nat.lt_or_ge b w1.heap.size with h' | h'
  · exact h'
  · simp [Array.getElem?_eq_none h'] at hbk
 have aa : w2.heap[b]? = some (.cells #[.pointer (some ⟨b, 0, none⟩), v, .int .i64 d, .int .i64 m] 231 (0, 0)) := by
  rw [hgrow.block b hlt (fun e => hne e.symm)]
  exact hbk
 have d0 : w2.cell? ⟨b, 0, none⟩ = some (.pointer (some ⟨b, 0, none⟩)) := by rw [Lib.cell_of_heap aa]; rfl
 have d1 : w2.cell? ⟨b, 1, none⟩ = some v := by rw [Lib.cell_of_heap aa]; rfl
 have f1 : w2.frozen? ⟨b, 1, none⟩ = false := Lib.frozen_of_heap aa 1
 obtain ⟨ao, n', cap, rfl⟩ : ∃ ao n' cap, v' = .slice ao n' cap := by
  rcases hown'.2 with ⟨hv, _⟩ | ⟨g, cap, cur, fz, hv, _⟩
  · exact ⟨_, _, _, hv⟩
  · exact ⟨_, _, _, hv⟩
 go_wp2
 go_ret2
 refine ⟨rfl, Or.inr ?_, ?_, (ag.grown hgrow (Lib.ownsRowF_kind hown)).setCell ⟨b, 1, none⟩ rfl _⟩
 · exact WA.put hB aa (by simpa [Lib.byteCells, Lib.strCells, Lib.strCells_length] using hown')
 · exact (ab.grown hgrow (by have := ab.size; omega) (fun k hk => (hown.lt k hk).1)).setCell (p := ⟨b, 1, none⟩) hB _
theorem freeze_far (w : World) (g b n : Nat) (h : g ≠ b) : (w.freeze ⟨g, 0, none⟩ n).heap[b]? = w.heap[b]? := by
 unfold World.freeze
 split
 · rfl
 · simp only [Array.getElem?_modify]
   rw [if_neg h]
set_option maxHeartbeats 2000000 in
set_option maxRecDepth 100000 in
theorem wstring_calls (B b : Nat) (l : List UInt8) (d m : Int) (w : World) (h : IsW B b l d m w) (h0 : l ≠ []) :
 Calls Tryz.prog 26 #[.pointer (some ⟨b, 0, none⟩)] w fun e w' => e = .returned (.string ⟨l.toArray⟩) ∧ Below B w w' ∧ w'.cell? ⟨b, 3, none⟩ = some (.int .i64 m) := by
 obtain ⟨p, hB, v, hbk, hown, hne⟩ : ∃ p, WA B b p l d m w := by
  rcases h with h | h
  · exact ⟨_, h⟩
  · exact ⟨_, h⟩
 have ab : l.length ≠ 0 := by simpa using h0
 rw [Lib.byteCells_length] at hown
 obtain ⟨g, cap, cur, fz, rfl, hbg, hg, hfz, hnc, hcm, hcs, htake⟩ : ∃ g cap cur fz, v = .slice (some ⟨g, 0, none⟩) l.length cap ∧ B ≤ g ∧ w.heap[g]? = some (.cells cur 5 fz) ∧ fz.2 ≤ l.length * 1 ∧ l.length ≤ cap ∧ cap ≤ maxLen ∧ cur.size = cap * 1 ∧ cur.toList.take (l.length * 1) = Lib.byteCells l := by
  rcases hown.2 with ⟨_, hz⟩ | ⟨g, cap, cur, fz, hv, r⟩
  · exact absurd hz ab
  · exact ⟨g, cap, cur, fz, hv, r⟩
 have c1 : w.drew.cell? ⟨b, 1, none⟩ = some (.slice (some ⟨g, 0, none⟩) l.length cap) := by
  have : w.drew.heap[b]? = some (.cells #[p, .slice (some ⟨g, 0, none⟩) l.length cap, .int .i64 d, .int .i64 m] 231 (0, 0)) := hbk
  rw [Lib.cell_of_heap this]; rfl
 have hSD : (Builtin.unsafeSliceData_ #[66] 114 #[.slice (some ⟨g, 0, none⟩) l.length cap]).run Tryz.prog w.drew = .ok (.pointer (some ⟨g, 0, none⟩)) w.drew :=
  Lib.run_unsafeSliceData_row _ _ _ _ _ _ (by omega)
 have hUS : (Builtin.unsafeString_ #[114, 3] 9 #[.pointer (some ⟨g, 0, none⟩), .int .i64 l.length]).run Tryz.prog w.drew = .ok (.string ⟨l.toArray⟩) (w.drew.freeze ⟨g, 0, none⟩ l.length) := by
  refine Lib.run_unsafeString_row w.drew 114 3 9 5 Tryz.underlying114 (by kernel_rfl) g cur.size (by have hg' : w.drew.heap[g]? = some (.cells cur 5 fz) := hg; simp [World.shape?, hg']) l h0 (by omega) (by unfold maxLen at hcm; omega) ?_;intro j x hx;have := hown.cells (g := g) rfl j (.int .u8 x.toNat) (by simp [Lib.byteCells, hx])
  exact this
 have mixed : Tryz.prog.follows .mixedOrders = true := by kernel_rfl
 go_enter Tryz.func26, Tryz.ntmps26
 go_wp2
 go_region
 all_goals (go_wp2; go_ret)
 all_goals exact ⟨rfl, Lib.below_freeze (below_drew (Below.refl B w)) (p := ⟨g, 0, none⟩) hbg _, by
  have hgb : g ≠ b := fun e => hne (by rw [e]; rfl)
  have hh := (freeze_far w.drew g b l.length hgb).trans hbk
  rw [Lib.cell_of_heap hh]; rfl⟩
structure PW (W0 : World) (b : Nat) (l : List UInt8) (d m : Int) (w : World) : Prop where
 wr : IsW W0.heap.size b l d m w
 be : Below W0.heap.size W0 w
structure PO (W0 : World) (b : Nat) (l : List UInt8) (d m : Int) (w w' : World) : Prop where
 ps : PW W0 b l d m w'
 ot : Lib.OthersKept 5 (some b) w w'
theorem ot_below {w w1 : World} {b : Option Nat} {e : TypeId} (hb : Below w.heap.size w w1) : Lib.OthersKept e b w w1 := fun k o hk _ _ =>
 (hb.block k (Array.getElem?_eq_some_iff.1 hk).1).trans hk
section
variable {W0 w w1 w2 : World} {b : Nat} {l l2 : List UInt8} {d m d2 m2 : Int}
theorem IsW.base (h : IsW W0.heap.size b l d m w) : W0.heap.size ≤ b := h.elim (·.1) (·.1)
theorem PW.below (h : PW W0 b l d m w) (hb : Below w.heap.size w w1) : PW W0 b l d m w1 := ⟨h.wr.below hb, qr h.be hb⟩
theorem PO.below (h : PO W0 b l d m w w1) (hb : Below w1.heap.size w1 w2) : PO W0 b l d m w w2 := ⟨h.ps.below hb, h.ot.trans (ot_below hb)⟩
theorem PO.start (h : PW W0 b l d m w) : PO W0 b l d m w w := ⟨h, Lib.OthersKept.refl _ _ _⟩
theorem PO.next (h : PO W0 b l d m w w1) (k : PO W0 b l2 d2 m2 w1 w2) : PO W0 b l2 d2 m2 w w2 := ⟨k.ps, h.ot.trans k.ot⟩
theorem PO.keeps (h : PO W0 b l d m w w1) {g t : Nat} {cs : Array Value} (hg : w.heap[g]? = some (.cells cs t (0, 0))) (hne : g ≠ b) (ht : t ≠ 5) : w1.heap[g]? = some (.cells cs t (0, 0)) :=
 h.ot g _ hg (fun e => hne (Option.some.inj e)) (fun c fz e => by injection e with _ e; exact ht e)
theorem PO.str (h : PO W0 b l d m w w1) (s : ByteArray) (hlen : l.length + s.size ≤ 140737488355328) :
 Calls Tryz.prog 62 #[.pointer (some ⟨b, 0, none⟩), .string s] w1 fun e w' => e = .returned (.tuple #[.int .i64 s.size, .nilIface]) ∧ PO W0 b (l ++ s.data.toList) d m w w' :=
 (wstr_calls W0.heap.size b l d m s w1 h.ps.wr hlen h.ps.be.size).mono (by
  rintro e w' ⟨rfl, h1, h2, h3⟩
  exact ⟨rfl, ⟨h1, h.ps.be.trans h2⟩, h.ot.trans h3⟩)
theorem PO.byte (h : PO W0 b l d m w w1) (c : UInt8) (hlen : l.length + 1 ≤ 140737488355328) :
 Calls Tryz.prog 173 #[.pointer (some ⟨b, 0, none⟩), .int .u8 (c.toNat : Int)] w1 fun e w' => e = .returned .nilIface ∧ PO W0 b (l ++ [c]) d m w w' :=
 (wbyte_calls W0.heap.size b l d m c w1 h.ps.wr hlen h.ps.be.size).mono (by
  rintro e w' ⟨rfl, h1, h2, h3⟩
  exact ⟨rfl, ⟨h1, h.ps.be.trans h2⟩, h.ot.trans h3⟩)
theorem IsW.num (h : IsW W0.heap.size b l d m w) (j : Nat) (u : Value) (hj : ∀ p v, (#[p, v, .int .i64 d, .int .i64 m] : Array Value).setIfInBounds j u = #[p, v, .int .i64 d2, .int .i64 m2]) : IsW W0.heap.size b l d2 m2 (w.setCell ⟨b, j, none⟩ u) :=
 h.imp (·.num j u (hj _)) (·.num j u (hj _))
theorem PO.depth (h : PO W0 b l d m w w1) (d2 : Int) : PO W0 b l d2 m w (w1.setCell ⟨b, 2, none⟩ (.int .i64 d2)) :=
 ⟨⟨h.ps.wr.num 2 _ (fun _ _ => rfl), qg h.ps.be h.ps.wr.base⟩, h.ot.setCell ⟨b, 2, none⟩ rfl _⟩
theorem PO.most (h : PO W0 b l d m w w1) (m2 : Int) : PO W0 b l d m2 w (w1.setCell ⟨b, 3, none⟩ (.int .i64 m2)) :=
 ⟨⟨h.ps.wr.num 3 _ (fun _ _ => rfl), qg h.ps.be h.ps.wr.base⟩, h.ot.setCell ⟨b, 3, none⟩ rfl _⟩
structure WF (w : World) (b : Nat) (d m : Int) : Prop where
 c2 : w.cell? ⟨b, 2, none⟩ = some (.int .i64 d)
 c3 : w.cell? ⟨b, 3, none⟩ = some (.int .i64 m)
 f2 : w.frozen? ⟨b, 2, none⟩ = false
 f3 : w.frozen? ⟨b, 3, none⟩ = false
theorem IsW.facts {B : Nat} (h : IsW B b l d m w) : WF w b d m := by
 obtain ⟨p, hB, v, hb, _⟩ : ∃ p, WA B b p l d m w := h.elim (fun h => ⟨_, h⟩) (fun h => ⟨_, h⟩)
 exact ⟨(qa hb 2).trans rfl, (qa hb 3).trans rfl, qc hb 2, qc hb 3⟩
end
theorem mx_if (a c : Int) : (if a < c then c else a) = max a c := by by_cases h : a < c <;> simp only [h, if_true, if_false] <;> omega
set_option maxHeartbeats 4000000 in
set_option maxRecDepth 100000 in
theorem xL (W0 w : World) (b : Nat) (l l' : List UInt8) (d m : Int) (D : Nat) (K : Nat) (cap : Array Value) (h : PW W0 b l d m w) (hd : 0 ≤ d ∧ d ≤ 1000000000) (hm : 0 ≤ m ∧ m ≤ 2000000000)
 (eg : ∀ (args : Array Value) (w : World), (callFunc K args).run Tryz.prog w = .ok (.enter K args) w)
 (hf : ∀ w1, PO W0 b l (d + 1) (max m (d + 1)) w w1 → Calls Tryz.prog K cap w1 fun e w' => e = .returned (.tuple #[]) ∧ PO W0 b l' (d + 1) (max (max m (d + 1)) (d + 1 + D)) w w') :
 Calls Tryz.prog 171 #[.pointer (some ⟨b, 0, none⟩), .func (.func K) #[] cap] w fun e w' => e = .returned (.tuple #[]) ∧ PO W0 b l' d (max m (d + 1 + D)) w w' := by
 have HP := Aside0.mk (PO.start h);have HF := Aside0.mk hf;obtain ⟨c2, c3, f2, f3⟩ := h.wr.facts;clear h hf
 go_enter Tryz.func171, Tryz.ntmps171
 go_wp2;have aa := Aside0.mk (HP.out.depth (d + 1));generalize w.setCell ⟨b, 2, none⟩ (.int .i64 (d + 1)) = w1 at *;clear c2 c3 f2 f3;obtain ⟨c2, c3, f2, f3⟩ := aa.out.ps.wr.facts
 go_region
 rw [mx_if];have ac := Aside0.mk ((aa.out.most (max m (d + 1))).below (qb (Below.refl _ _)));generalize (w1.setCell ⟨b, 3, none⟩ (.int .i64 (max m (d + 1)))).drew = w2 at *;generalize hM : max m (d + 1) = M at *;have HM := Aside0.mk hM;clear c2 c3 f2 f3 hM
 go_upto_region 3 with (go_at_fn K; go_must (refine (HF.out _ ac.out).mono ?_; rintro e w3 ⟨rfl, ho⟩; have ab := Aside0.mk ho; clear ho))
 obtain ⟨c2, c3, f2, f3⟩ := ab.out.ps.wr.facts;go_wp2
 go_end0
 refine ⟨rfl, ?_⟩;have h3 := ab.out.depth d
 have e : max M (d + 1 + (D : Int)) = max m (d + 1 + (D : Int)) := by have := HM.out; omega
 rw [e] at h3
 exact h3
def RowV (w : World) (A : Option Addr) (vs : List Value) : Prop := ∃ ad, A = some ad ∧ ∀ (i : Nat) v, vs[i]? = some v → w.cell? (ad.add i) = some v
def wordsL (op : Int) : List UInt8 := if op = 9 then [73, 83, 32, 78, 85, 76, 76] else [73, 83, 32, 78, 79, 84, 32, 78, 85, 76, 76]
inductive IsT (w : World) : Value → Tr → Prop
 | leaf (x : Nd) (h1 : 1 ≤ x.f0) (h6 : x.f0 ≤ 6) : IsT w (.iface 260 (.string (str (leafL x.f0 x.f2 x.f3.data.toList)))) ⟨x, []⟩
 | ahead (x : Nd) (t : Tr) (v : Value) (hx : x.f0 = 7 ∨ (x.f0 = 8 ∧ zI t.f0.f0 = false)) (h : IsT w v t) : IsT w (.iface 266 (.agg #[.int .i64 x.f0, v])) ⟨x, [t]⟩
 | sugar (x : Nd) (t : Tr) (o : Int) (sl : Value) (hx : x.f0 = 8) (ht : zI t.f0.f0 = true) (h : IsT w (.iface 263 (.agg #[.int .i64 o, .bool false, sl])) t) : IsT w (.iface 263 (.agg #[.int .i64 o, .bool true, sl])) ⟨x, [t]⟩
 | null (x : Nd) (t : Tr) (v : Value) (hx : x.f0 = 9 ∨ x.f0 = 10) (h : IsT w v t) : IsT w (.iface 268 (.agg #[.string (str (wordsL x.f0)), v])) ⟨x, [t]⟩
 | binary (x : Nd) (a b : Tr) (va vb : Value) (h1 : 11 ≤ x.f0) (h2 : x.f0 ≤ 24) (ha : IsT w va a) (hb : IsT w vb b) : IsT w (.iface 271 (.agg #[.string (str (vf x.f0)), .int .i64 (lvlI x.f0), va, vb])) ⟨x, [a, b]⟩
 | matched (x : Nd) (ks : List Tr) (vs : List Value) (A : Option Addr) (c : Nat) (hx : zI x.f0 = true) (hn : (x.f0 = 25 → ks.length = 2) ∧ (x.f0 = 26 → ks.length = 3) ∧ (x.f0 = 27 → 2 ≤ ks.length)) (hc : ks.length ≤ c) (hl : vs.length = ks.length) (hr : RowV w A vs) (h : ∀ (i : Nat) v t, vs[i]? = some v → ks[i]? = some t → IsT w v t) :
  IsT w (.iface 263 (.agg #[.int .i64 x.f0, .bool false, .slice A ks.length c])) ⟨x, ks⟩
 | choice (x : Nd) (ks : List Tr) (vs : List Value) (A : Option Addr) (c : Nat) (hx : x.f0 = 28) (hn : 3 ≤ ks.length ∧ ks.length % 2 = 1) (hc : ks.length ≤ c) (hl : vs.length = ks.length) (hr : RowV w A vs) (h : ∀ (i : Nat) v t, vs[i]? = some v → ks[i]? = some t → IsT w v t) :
  IsT w (.iface 273 (.agg #[.slice A ks.length c])) ⟨x, ks⟩
 | called (x : Nd) (ks : List Tr) (vs : List Value) (A : Option Addr) (c : Nat) (hx : x.f0 = 29) (hn : 1 ≤ ks.length) (hc : ks.length ≤ c) (hl : vs.length = ks.length) (hr : RowV w A vs) (h : ∀ (i : Nat) v t, vs[i]? = some v → ks[i]? = some t → IsT w v t) :
  IsT w (.iface 277 (.agg #[.string x.f3, .slice A ks.length c])) ⟨x, ks⟩
theorem xM (op : Int) : zI op = true ↔ 25 ≤ op ∧ op ≤ 27 := by simp [zI]
theorem xB (op : Int) : zI op = false ↔ ¬ (25 ≤ op ∧ op ≤ 27) := by simp [zI]
theorem lvl_of_range (op : Int) (h1 : 11 ≤ op) (h2 : op ≤ 24) (t : Tr) (ht : t.f0.f0 = op) : levI t = lvlI op := by
 unfold levI;rw [ht, if_neg (by omega), if_neg (by omega), if_neg (by omega), if_neg (by omega), if_pos h2]
theorem has_level {w : World} {v : Value} {t : Tr} (h : IsT w v t) : xD v (levI t) := by
 cases h with
 | leaf x h1 h6 =>
  have : levI ⟨x, []⟩ = 9 := by unfold levI; rw [if_pos h6]
  rw [this]; exact has_atom _
 | ahead x t v hx h =>
  have : levI ⟨x, [t]⟩ = if x.f0 = 8 then 3 else 8 := by
   unfold levI
   rcases hx with hx | ⟨hx, hm⟩
   · simp only [hx]; rfl
   · simp only [hx]
     have : sug ⟨x, [t]⟩ = false := by simp [sug, kid, hm]
     rw [if_neg (by omega), if_neg (by omega), if_pos trivial, if_pos trivial, this]; rfl
  rw [this]; exact has_ahead _ _
 | sugar x t o sl hx ht h =>
  have : levI ⟨x, [t]⟩ = 4 := by
   unfold levI;simp only [hx]
   have : sug ⟨x, [t]⟩ = true := by simp [sug, kid, hx, ht]
   rw [if_neg (by omega), if_neg (by omega), if_pos trivial, this]; rfl
  rw [this]; exact has_matched _ _ _
 | null x t v hx h =>
  have : levI ⟨x, [t]⟩ = 4 := by
   unfold levI
   rcases hx with hx | hx <;> (simp only [hx]; rfl)
  rw [this]; exact has_nullness _ _
 | binary x a b va vb h1 h2 ha hb =>
  rw [lvl_of_range x.f0 h1 h2 ⟨x, [a, b]⟩ rfl]; exact has_binary _ _ _ _
 | matched x ks vs A c hx hn hc hl hr h =>
  have aa := (xM _).1 hx
  have : levI ⟨x, ks⟩ = 4 := by
   unfold levI;rw [if_neg (by show ¬ x.f0 ≤ 6; omega), if_neg (by show ¬ x.f0 = 7; omega), if_neg (by show ¬ x.f0 = 8; omega), if_neg (by show ¬ (x.f0 = 9 ∨ x.f0 = 10); omega), if_neg (by show ¬ x.f0 ≤ 24; omega), if_pos aa.2]
  rw [this]; exact has_matched _ _ _
 | choice x ks vs A c hx hn hc hl hr h =>
  have : levI ⟨x, ks⟩ = 9 := by unfold levI; simp only [hx]; rfl
  rw [this]; exact has_choice _
 | called x ks vs A c hx hn hc hl hr h =>
  have : levI ⟨x, ks⟩ = 9 := by unfold levI; simp only [hx]; rfl
  rw [this]; exact has_called _ _
theorem vN {w W : World} {g : Nat} {o : Obj} (h : w.heap[g]? = some o) (hb : Below w.heap.size w W) : W.heap[g]? = some o := (hb.block g (zv h)).trans h
def Fits (l : List UInt8) (d m : Int) (s : List UInt8) (D : Nat) : Prop := l.length + s.length ≤ 140737488355328 ∧ 0 ≤ d ∧ d + D ≤ 1000000000 ∧ d ≤ m ∧ m ≤ 1000000000
def vP (W0 : World) (v : Value) (t : Tr) : Prop := ∀ (w : World) (b : Nat) (l : List UInt8) (d m : Int), PW W0 b l d m w → Fits l d m (shw t).1 (dep t) →
 Calls Tryz.prog 174 #[.pointer (some ⟨b, 0, none⟩), v] w fun e w' => e = .returned (.tuple #[]) ∧ PO W0 b (l ++ (shw t).1) d (max m (d + dep t)) w w'
def zH (W0 : World) (v : Value) (t : Tr) : Prop := ∀ (w : World) (b : Nat) (l : List UInt8) (d m : Int) (lv : Int), PW W0 b l d m w → Fits l d m (opd lv t (shw t).1) (opdD lv t (dep t)) →
 Calls Tryz.prog 152 #[.pointer (some ⟨b, 0, none⟩), v, .int .i64 lv] w fun e w' => e = .returned (.tuple #[]) ∧ PO W0 b (l ++ opd lv t (shw t).1) d (max m (d + opdD lv t (dep t))) w w'
theorem eg29 : ∀ args w, (callFunc 172 args).run Tryz.prog w = .ok (.enter 172 args) w := enters_of Tryz.func172 (by kernel_rfl) rfl
set_option maxHeartbeats 4000000 in
set_option maxRecDepth 100000 in
theorem clo_tree (W0 w : World) (b g3 g4 : Nat) (l : List UInt8) (d m : Int) (v : Value) (t : Tr) (hv : v.oneCell' = true) (hB : vP W0 v t) (h : PW W0 b l d m w) (hf : Fits l d m (40 :: ((shw t).1 ++ [41])) (dep t))
 (k3 : w.heap[g3]? = some (.cells #[.pointer (some ⟨b, 0, none⟩)] 229 (0, 0))) (k4 : w.heap[g4]? = some (.cells #[v] 227 (0, 0))) (n3 : g3 ≠ b) (n4 : g4 ≠ b) :
 Calls Tryz.prog 172 #[.pointer (some ⟨g3, 0, none⟩), .pointer (some ⟨g4, 0, none⟩)] w fun e w' => e = .returned (.tuple #[]) ∧ PO W0 b (l ++ 40 :: ((shw t).1 ++ [41])) d (max m (d + dep t)) w w' := by
 have HP := Aside0.mk (PO.start h);have HB := Aside0.mk hB;have HF := Aside0.mk hf;have H3 := Aside0.mk k3;have H4 := Aside0.mk k4;have N3 := Aside0.mk n3;have N4 := Aside0.mk n4;have c3 : w.cell? ⟨g3, 0, none⟩ = some (.pointer (some ⟨b, 0, none⟩)) := (qa k3 0).trans rfl;have c4 : w.cell? ⟨g4, 0, none⟩ = some v := (qa k4 0).trans rfl
 have hlen : l.length + ((shw t).1.length + 2) ≤ 140737488355328 := by have := hf.1; simp only [List.length_cons, List.length_append, List.length_nil] at this; omega
 clear h hB hf k3 k4 n3 n4
 go_enter Tryz.func172, Tryz.ntmps172
 go_upto_region 1 with (go_at_call 173; go_must (refine (HP.out.byte 40 (by omega)).mono ?_; rintro e w1 ⟨rfl, ho⟩; have aa := Aside0.mk ho; clear ho))
 have c3' : w1.cell? ⟨g3, 0, none⟩ = some (.pointer (some ⟨b, 0, none⟩)) := (qa (aa.out.keeps H3.out N3.out (by decide)) 0).trans rfl;have c4' : w1.cell? ⟨g4, 0, none⟩ = some v := (qa (aa.out.keeps H4.out N4.out (by decide)) 0).trans rfl;have aj : Aside0 (Fits (l ++ [40]) d m (shw t).1 (dep t)) := ⟨⟨by simp only [List.length_append, List.length_singleton]; omega, HF.out.2⟩⟩;clear c3 c4
 go_upto_region 2 with (go_at_call 174; go_must (refine (HB.out w1 b (l ++ [40]) d m aa.out.ps aj.out).mono ?_; rintro e w2 ⟨rfl, ho⟩; have ae := Aside0.mk (aa.out.next ho); clear ho))
 have c3 : w2.cell? ⟨g3, 0, none⟩ = some (.pointer (some ⟨b, 0, none⟩)) := (qa (ae.out.keeps H3.out N3.out (by decide)) 0).trans rfl;clear c3' c4'
 go_wp2_with (go_at_call 173; go_must (refine (ae.out.byte 41 (by simp only [List.length_append, List.length_singleton]; omega)).mono ?_; rintro e w3 ⟨rfl, ho⟩; have ak := Aside0.mk ho; clear ho))
 go_end0
 refine ⟨rfl, ?_⟩;have h9 := ak.out
 simpa only [List.append_assoc, List.singleton_append, List.cons_append, List.nil_append] using h9
set_option maxHeartbeats 4000000 in
set_option maxRecDepth 100000 in
theorem tree_of_bare (W0 : World) (v : Value) (t : Tr) (hv : v.oneCell' = true) (hL : xD v (levI t)) (hB : vP W0 v t) : zH W0 v t := by
 intro w b l d m lv h hf;obtain ⟨T, u, K, rv, hval, hmeth, henter, hcalls⟩ := hL;subst hval;have HC := Aside0.mk hcalls;have HB := Aside0.mk hB;have HV := Aside0.mk hv;have hbl := h.wr.lt;have k3 := qe (qL w (.cells #[.pointer (some ⟨b, 0, none⟩)] 229)) (.cells #[.iface T u] 227);have k4 := qL (w.alloc (.cells #[.pointer (some ⟨b, 0, none⟩)] 229)) (.cells #[.iface T u] 227);rw [World.size_alloc] at k4;have K3 := Aside0.mk k3;have K4 := Aside0.mk k4;have af := q8 (q8 (Below.refl w.heap.size w) (.cells #[.pointer (some ⟨b, 0, none⟩)] 229)) (.cells #[.iface T u] 227);have HP := Aside0.mk ((PO.start h).below af);have HBL := Aside0.mk hbl;clear h k3 k4 af hcalls hB hv hbl
 by_cases hlv : levI t < lv
 · have d1 : decide (levI t < lv) = true := decide_eq_true hlv
   have e1 : opd lv t (shw t).1 = 40 :: ((shw t).1 ++ [41]) := by unfold opd; rw [if_pos hlv]
   have e2 : opdD lv t (dep t) = 1 + dep t := by unfold opdD; rw [if_pos hlv]
   rw [e1, e2] at hf ⊢;have HF := Aside0.mk hf;clear hf e1 e2 hlv
   go_enter Tryz.func152, Tryz.ntmps152
   go_upto_region 2 with (go_at_fn K; go_must (refine (HC.out _).mono ?_; rintro e w1 ⟨rfl, hb⟩; have K3' := Aside0.mk (vN K3.out hb); have K4' := Aside0.mk (vN K4.out hb); have aa := Aside0.mk (HP.out.below hb); clear hb; have c3 : w1.cell? ⟨w.heap.size, 0, none⟩ = some (.pointer (some ⟨b, 0, none⟩)) := (qa K3'.out 0).trans rfl; have c4 : w1.cell? ⟨w.heap.size + 1, 0, none⟩ = some (.iface T u) := (qa K4'.out 0).trans rfl))
   go_wp2_with (go_at_call 171; go_must (refine (xL W0 w1 b l (l ++ 40 :: ((shw t).1 ++ [41])) d m (dep t) 172 #[.pointer (some ⟨w.heap.size, 0, none⟩), .pointer (some ⟨w.heap.size + 1, 0, none⟩)] aa.out.ps (by have := HF.out; unfold Fits at this; omega) (by have := HF.out; unfold Fits at this; omega) eg29 ?_).mono ?_))
   · intro w2 h2
     refine (clo_tree W0 w2 b w.heap.size (w.heap.size + 1) l (d + 1) (max m (d + 1)) (.iface T u) t HV.out HB.out h2.ps ?_ (h2.keeps K3'.out (by have := HBL.out; omega) (by decide)) (h2.keeps K4'.out (by have := HBL.out; omega) (by decide)) (by have := HBL.out; omega) (by have := HBL.out; omega)).mono ?_
     · have := HF.out; unfold Fits at this ⊢; omega
     · rintro e w3 ⟨rfl, ho⟩
       exact ⟨rfl, h2.next ho⟩
   · rintro e w2 ⟨rfl, ho⟩
     go_wp2;refine bodyPost_ret (results_none rfl _ _ _) rfl ?_;refine ⟨rfl, ?_⟩;have h9 := aa.out.next ho
     have e : d + 1 + (dep t : Int) = d + ((1 + dep t : Nat) : Int) := by omega
     rw [e] at h9
     exact h9
 · have d1 : decide (levI t < lv) = false := decide_eq_false hlv
   have e1 : opd lv t (shw t).1 = (shw t).1 := by unfold opd; rw [if_neg hlv]
   have e2 : opdD lv t (dep t) = dep t := by unfold opdD; rw [if_neg hlv]
   rw [e1, e2] at hf ⊢;have HF := Aside0.mk hf;clear hf e1 e2 hlv
   go_enter Tryz.func152, Tryz.ntmps152
   go_upto_region 3 with (go_at_fn K; go_must (refine (HC.out _).mono ?_; rintro e w1 ⟨rfl, hb⟩; have K3' := Aside0.mk (vN K3.out hb); have K4' := Aside0.mk (vN K4.out hb); have aa := Aside0.mk (HP.out.below hb); clear hb; have c3 : w1.cell? ⟨w.heap.size, 0, none⟩ = some (.pointer (some ⟨b, 0, none⟩)) := (qa K3'.out 0).trans rfl; have c4 : w1.cell? ⟨w.heap.size + 1, 0, none⟩ = some (.iface T u) := (qa K4'.out 0).trans rfl))
   go_wp2_with (go_at_call 174; go_must (refine (HB.out w1 b l d m aa.out.ps HF.out).mono ?_; rintro e w2 ⟨rfl, ho⟩; have ak := Aside0.mk (aa.out.next ho); clear ho))
   go_end0
   exact ⟨rfl, ak.out⟩
def its (ts : List Tr) : List (Tr × Tx) := ts.zip (shws ts)
theorem vi (ts : List Tr) : (its ts).length = ts.length := by simp [its, shws_len]
theorem its_at (ts : List Tr) (k : Nat) (h : k < ts.length) : (its ts)[k]'(by rw [vi]; exact h) = (ts[k], shw ts[k]) := by
 have h2 := xS ts k h
 have h3 : k < (shws ts).length := by rw [shws_len]; exact h
 simp only [txt, List.getD_eq_getElem?_getD, List.getElem?_eq_getElem h3, Option.getD_some] at h2;simp only [its, List.getElem_zip, h2]
theorem lst_one (l : List (Tr × Tx)) (k : Nat) (hk : k < l.length) : lstL (l.take (k + 1)) = lstL (l.take k) ++ (if 0 < k then [44, 32] else []) ++ opd 1 (l[k]).1 (l[k]).2.1 := by
 rw [List.take_succ_eq_append_getElem hk]
 by_cases h0 : 0 < k
 · rw [if_pos h0]
   cases hc : l.take k with
   | nil => have := congrArg List.length hc; rw [List.length_take, List.length_nil] at this; omega
   | cons y r => simp [lstL]
 · obtain rfl : k = 0 := by omega
   simp [lstL]
theorem lst_app (a b : List (Tr × Tx)) : ∃ t, lstL (a ++ b) = lstL a ++ t := by
 cases a with
 | nil => exact ⟨_, rfl⟩
 | cons x r => exact ⟨b.flatMap (fun q => 44 :: 32 :: opd 1 q.1 q.2.1), by simp [lstL]⟩
theorem lst_len (l : List (Tr × Tx)) (k : Nat) : (lstL (l.take k)).length ≤ (lstL l).length := by
 obtain ⟨t, ht⟩ := lst_app (l.take k) (l.drop k);rw [List.take_append_drop] at ht;rw [ht, List.length_append]
 omega
def mxl : List Tr → Nat
 | [] => 0
 | t :: ts => max (opdD 1 t (dep t)) (mxl ts)
theorem mxl_app : ∀ (a b : List Tr), mxl (a ++ b) = max (mxl a) (mxl b)
 | [], b => by simp [mxl]
 | t :: ts, b => by simp only [List.cons_append, mxl, mxl_app ts b]; omega
theorem mxl_take (ts : List Tr) (k : Nat) (hk : k < ts.length) : mxl (ts.take (k + 1)) = max (mxl (ts.take k)) (opdD 1 ts[k] (dep ts[k])) := by
 rw [List.take_succ_eq_append_getElem hk, mxl_app]
 simp [mxl]
theorem mxl_le (ts : List Tr) (k : Nat) : mxl (ts.take k) ≤ mxl ts := by
 have := mxl_app (ts.take k) (ts.drop k);rw [List.take_append_drop] at this
 omega
def AllOK (W0 : World) (vs : List Value) (ts : List Tr) : Prop := vs.length = ts.length ∧ ∀ (i : Nat) v t, vs[i]? = some v → ts[i]? = some t → zH W0 v t
set_option maxHeartbeats 4000000 in
set_option maxRecDepth 100000 in
theorem list_calls (W0 w : World) (b : Nat) (l : List UInt8) (d m : Int) (A : Option Addr) (c : Nat) (vs : List Value) (ts : List Tr) (hr : RowV W0 A vs) (hK : AllOK W0 vs ts) (hn : ts.length ≤ 1000000000) (h : PW W0 b l d m w) (hf : Fits l d m (lstL (its ts)) (mxl ts)) :
 Calls Tryz.prog 189 #[.pointer (some ⟨b, 0, none⟩), .slice A ts.length c] w fun e w' => e = .returned (.tuple #[]) ∧ PO W0 b (l ++ lstL (its ts)) d (max m (d + mxl ts)) w w' := by
 obtain ⟨ad, rfl, hcell⟩ := hr;have HR := Aside0.mk hcell;have HK := Aside0.mk hK;have HP := Aside0.mk (PO.start h);have HF := Aside0.mk hf;clear h hf hK hcell
 go_enter Tryz.func189, Tryz.ntmps189
 go_wp2
 go_loopw [4, 5, 8] (fun v4 v5 v8 wr => ∃ k : Nat, k ≤ ts.length ∧ v8 = .int .i64 (k : Int) ∧ Aside0 (PO W0 b (l ++ lstL ((its ts).take k)) d (max m (d + mxl (ts.take k))) w wr)) (fun _ _ v8 _ => ts.length - (intOf v8).toNat)
 case atStart => exact ⟨0, Nat.zero_le _, rfl, ⟨by have := HF.out; unfold Fits at this; have e : max m (d + ((mxl (ts.take 0) : Nat) : Int)) = m := (by simp only [List.take_zero, mxl]; omega); rw [e]; simpa [lstL] using HP.out⟩⟩
 case round =>
  clear HP;obtain ⟨k, hk, rfl, HP⟩ := hrel
  by_cases hlt : k < ts.length
  · have d1 : decide ((k : Int) < (ts.length : Int)) = true := decide_eq_true (by omega)
    have d9 : (k : Int) < (ts.length : Int) := by omega
    have hvl : k < vs.length := by rw [HK.out.1]; exact hlt
    have g0 : W0.cell? (ad.add k) = some vs[k] := HR.out k _ (List.getElem?_eq_getElem hvl);replace g0 := (HP.out.ps.be.cell (World.block_lt_of_cell? W0 _ g0)).trans g0;have HT := Aside0.mk (HK.out.2 k _ _ (List.getElem?_eq_getElem hvl) (List.getElem?_eq_getElem hlt))
    have hi : k < (its ts).length := by rw [vi]; exact hlt
    have h1 := lst_one (its ts) k hi;rw [its_at ts k hlt] at h1;have HX := Aside0.mk h1;have HM := Aside0.mk (mxl_take ts k hlt);have HL := Aside0.mk (lst_len (its ts) (k + 1));have HD := Aside0.mk (mxl_le ts (k + 1));generalize vs[k] = v at *;generalize ts[k] = t at *;clear h1 hi hvl
    by_cases ae : 0 < k
    · rw [if_pos ae] at HX
      have aa : Aside0 (Fits (l ++ lstL ((its ts).take k) ++ [44, 32]) d (max m (d + mxl (ts.take k))) (opd 1 t (shw t).1) (opdD 1 t (dep t))) := ⟨by
       have h1 := HF.out; have h2 := HL.out; have h3 := HX.out; have h4 := HM.out; have h5 := HD.out
       unfold Fits at h1 ⊢;rw [h3] at h2;simp only [List.length_append, List.length_cons, List.length_nil] at h1 h2 ⊢
       omega⟩
      go_wp2_with (first
       | (go_at_call 62; go_must (refine (HP.out.str ⟨#[44, 32]⟩ (by have := aa.out.1; simp only [List.length_append, List.length_cons, List.length_nil] at this ⊢; show _ + 2 ≤ _; omega)).mono ?_; rintro e w1 ⟨rfl, ho⟩; have af := Aside0.mk ho; clear ho))
       | (go_at_call 152; go_must (refine (HT.out _ b (l ++ lstL ((its ts).take k) ++ [44, 32]) d (max m (d + mxl (ts.take k))) 1 af.out.ps aa.out).mono ?_; rintro e w2 ⟨rfl, ho⟩; have ac := Aside0.mk (af.out.next ho); clear ho)))
      go_roundw
      case rel =>
       refine ⟨k + 1, by omega, by go_num, ⟨?_⟩⟩;rw [HX.out, HM.out]
       have e : max m (d + ((max (mxl (ts.take k)) (opdD 1 t (dep t)) : Nat) : Int)) = max (max m (d + (mxl (ts.take k) : Int))) (d + (opdD 1 t (dep t) : Int)) := by omega
       rw [e]
       simpa only [List.append_assoc] using ac.out
      case measure => simp [intOf]; omega
    · rw [if_neg ae] at HX
      have aa : Aside0 (Fits (l ++ lstL ((its ts).take k)) d (max m (d + mxl (ts.take k))) (opd 1 t (shw t).1) (opdD 1 t (dep t))) := ⟨by
       have h1 := HF.out; have h2 := HL.out; have h3 := HX.out; have h4 := HM.out; have h5 := HD.out
       unfold Fits at h1 ⊢;rw [h3] at h2;simp only [List.length_append, List.length_cons, List.length_nil] at h1 h2 ⊢
       omega⟩
      go_wp2_with (first
       | (go_at_call 152; go_must (refine (HT.out _ b (l ++ lstL ((its ts).take k)) d (max m (d + mxl (ts.take k))) 1 HP.out.ps aa.out).mono ?_; rintro e w2 ⟨rfl, ho⟩; have ac := Aside0.mk (HP.out.next ho); clear ho)))
      go_roundw
      case rel =>
       refine ⟨k + 1, by omega, by go_num, ⟨?_⟩⟩;rw [HX.out, HM.out]
       have e : max m (d + ((max (mxl (ts.take k)) (opdD 1 t (dep t)) : Nat) : Int)) = max (max m (d + (mxl (ts.take k) : Int))) (d + (opdD 1 t (dep t) : Int)) := by omega
       rw [e]
       simpa only [List.append_assoc, List.append_nil] using ac.out
      case measure => simp [intOf]; omega
  · have d1 : decide ((k : Int) < (ts.length : Int)) = false := decide_eq_false (by omega)
    have e1 : (its ts).take k = its ts := List.take_of_length_le (by rw [vi]; omega);have e2 : ts.take k = ts := List.take_of_length_le (by omega);rw [e1, e2] at HP;clear e1 e2;go_wp2
    go_end0
    exact ⟨rfl, HP.out⟩
end Go.Proofs.YtfmgbgkcmmpcfaaGreatDoor.PTk

