import Derived.Test.YtfmgbgkcmmpcfaaDoorYPTxx0
namespace Go.Proofs.YtfmgbgkcmmpcfaaDoor.PTx
open Go.RowKit Go.Proofs.YtfmgbgkcmmpcfaaDoorW.PrintWords Go.Proofs.YtfmgbgkcmmpcfaaDoorW.PrintLast Go.Proofs.YtfmgbgkcmmpcfaaDoorW.PrintMore
attribute [local go_sem] zu zC
set_option linter.unusedVariables false
set_option linter.unusedSimpArgs false
def qV.j0 : Nat → ByteArray → Bool → Option (Int × Int × Bool)
 | 0, _, _ => none
 | k + 1, x5, x6 => if x6 = true then (some (1, 1, true)) else (if x5.toList = ([110, 117, 108, 108, 105, 102] : List UInt8) then (some (2, 2, true)) else (if x5.toList = ([115, 117, 98, 115, 116, 114] : List UInt8) then (some (3, 3, true)) else (if x5.toList = ([99, 111, 97, 108, 101, 115, 99, 101] : List UInt8) then (some (1, 16, true)) else (if x5.toList = ([108, 101, 97, 115, 116] : List UInt8) then (some (1, 16, true)) else (if x5.toList = ([103, 114, 101, 97, 116, 101, 115, 116] : List UInt8) then (some (1, 16, true)) else (some (0, 0, false)))))))
def qV.f (k : Nat) (a0 : ByteArray) : Option (Int × Int × Bool) := if a0.toList = ([97, 98, 115] : List UInt8) then (qV.j0 k a0 (a0.toList == ([97, 98, 115] : List UInt8))) else (if a0.toList = ([108, 101, 110, 103, 116, 104] : List UInt8) then (qV.j0 k a0 (a0.toList == ([108, 101, 110, 103, 116, 104] : List UInt8))) else (if a0.toList = ([108, 111, 119, 101, 114] : List UInt8) then (qV.j0 k a0 (a0.toList == ([108, 111, 119, 101, 114] : List UInt8))) else (qV.j0 k a0 (a0.toList == ([117, 112, 112, 101, 114] : List UInt8)))))
set_option maxHeartbeats 8000000 in
set_option maxRecDepth 100000 in
theorem qV.calls (k : Nat) (a0 : ByteArray) (r1 : Int) (r2 : Int) (r3 : Bool) (w : World) (h : qV.f k a0 = some (r1, r2, r3)) :
 Calls Tryd.prog 40 #[.string a0] w fun e w' => e = .returned (.tuple #[.int .i64 r1, .int .i64 r2, .bool r3]) ∧ qB w w' := by
 have H : (if a0.toList = ([97, 98, 115] : List UInt8) then (qV.j0 k a0 (a0.toList == ([97, 98, 115] : List UInt8))) else (if a0.toList = ([108, 101, 110, 103, 116, 104] : List UInt8) then (qV.j0 k a0 (a0.toList == ([108, 101, 110, 103, 116, 104] : List UInt8))) else (if a0.toList = ([108, 111, 119, 101, 114] : List UInt8) then (qV.j0 k a0 (a0.toList == ([108, 111, 119, 101, 114] : List UInt8))) else (qV.j0 k a0 (a0.toList == ([117, 112, 112, 101, 114] : List UInt8)))))) = some (r1, r2, r3) := h;clear h;have an := Aside0.mk H;clear H
 go_enter Tryd.func40, Tryd.ntmps40
 go_upto_if 6 with (fail)
 go_cut [6] (fun v6 wc => ∃ (kq : Nat) (af : Bool), v6 = .bool af ∧ Aside0 (qV.j0 kq a0 af = some (r1, r2, r3)) ∧ Aside0 (kq ≤ k) ∧ qB w wc)
 case first =>
  have H := an.out;clear an
  by_cases c3 : a0.toList = ([97, 98, 115] : List UInt8)
  · rw [if_pos c3] at H
    have ab : (a0.toList == ([97, 98, 115] : List UInt8)) = true := beq_iff_eq.mpr c3;have ao : (a0.toList != ([97, 98, 115] : List UInt8)) = false := bne_eq_false_iff_eq.mpr c3;clear c3
    (first | rw [ab] | (simp only [qC, qD]; rw [ab]) | skip)
    have H' := Aside0.mk H;clear H;go_wp2;go_meet
    case rel => exact ⟨_, ((a0.toList == ([97, 98, 115] : List UInt8))), (by first | rfl | (simp; done) | (simp [*]; done)), H', ⟨by first | omega | exact Nat.le_refl _⟩, by repeat (first | exact qB.refl _ | apply qB.step)⟩
  · rw [if_neg c3] at H
    have ab : (a0.toList == ([97, 98, 115] : List UInt8)) = false := beq_eq_false_iff_ne.mpr c3;have ao : (a0.toList != ([97, 98, 115] : List UInt8)) = true := bne_iff_ne.mpr c3
    (first | rw [ab] | (simp only [qC, qD]; rw [ab]) | skip)
    by_cases c4 : a0.toList = ([108, 101, 110, 103, 116, 104] : List UInt8)
    · rw [if_pos c4] at H
      have ap : (a0.toList == ([108, 101, 110, 103, 116, 104] : List UInt8)) = true := beq_iff_eq.mpr c4;have au : (a0.toList != ([108, 101, 110, 103, 116, 104] : List UInt8)) = false := bne_eq_false_iff_eq.mpr c4;clear c4;have H' := Aside0.mk H;clear H;go_wp2;go_meet
      case rel => exact ⟨_, ((a0.toList == ([108, 101, 110, 103, 116, 104] : List UInt8))), (by first | rfl | (simp; done) | (simp [*]; done)), H', ⟨by first | omega | exact Nat.le_refl _⟩, by repeat (first | exact qB.refl _ | apply qB.step)⟩
    · rw [if_neg c4] at H
      have ap : (a0.toList == ([108, 101, 110, 103, 116, 104] : List UInt8)) = false := beq_eq_false_iff_ne.mpr c4;have au : (a0.toList != ([108, 101, 110, 103, 116, 104] : List UInt8)) = true := bne_iff_ne.mpr c4
      by_cases c5 : a0.toList = ([108, 111, 119, 101, 114] : List UInt8)
      · rw [if_pos c5] at H
        have av : (a0.toList == ([108, 111, 119, 101, 114] : List UInt8)) = true := beq_iff_eq.mpr c5;have aw : (a0.toList != ([108, 111, 119, 101, 114] : List UInt8)) = false := bne_eq_false_iff_eq.mpr c5;clear c5;have H' := Aside0.mk H;clear H;go_wp2;go_meet
        case rel => exact ⟨_, ((a0.toList == ([108, 111, 119, 101, 114] : List UInt8))), (by first | rfl | (simp; done) | (simp [*]; done)), H', ⟨by first | omega | exact Nat.le_refl _⟩, by repeat (first | exact qB.refl _ | apply qB.step)⟩
      · rw [if_neg c5] at H
        have av : (a0.toList == ([108, 111, 119, 101, 114] : List UInt8)) = false := beq_eq_false_iff_ne.mpr c5;have aw : (a0.toList != ([108, 111, 119, 101, 114] : List UInt8)) = true := bne_iff_ne.mpr c5;have H' := Aside0.mk H;clear H;go_wp2;go_meet
        case rel => exact ⟨_, ((a0.toList == ([117, 112, 112, 101, 114] : List UInt8))), (by first | rfl | (simp; done) | (simp [*]; done)), H', ⟨by first | omega | exact Nat.le_refl _⟩, by repeat (first | exact qB.refl _ | apply qB.step)⟩
 case rest =>
  clear an
  (try clear p2); (try clear c3); (try clear ab); (try clear ao); (try clear c4); (try clear ap); (try clear au); (try clear c5); (try clear av); (try clear aw)
  obtain ⟨kq, af, rfl, HA, bb, ⟨bc, rfl⟩⟩ := hcut
  cases kq with
  | zero => exact absurd HA.out (by simp [qV.j0])
  | succ bd =>
   have H := HA.out;clear HA;simp only [qV.j0] at H
   by_cases c6 : af = true
   · subst c6
     have H1 : (some (1, 1, true)) = some (r1, r2, r3) := by rw [if_pos rfl] at H; exact H
     clear H;have H := H1;clear H1;simp only [Option.some.injEq, Prod.mk.injEq] at H;obtain ⟨rfl, rfl, rfl⟩ := H;go_wp2
     go_ret3
     exact ⟨by first | rfl | (simp; done) | (simp [*]; done), by repeat (first | exact qB.refl _ | apply qB.step)⟩
   · replace c6 := Bool.eq_false_iff.mpr c6
     subst c6
     have H1 : (if a0.toList = ([110, 117, 108, 108, 105, 102] : List UInt8) then (some (2, 2, true)) else (if a0.toList = ([115, 117, 98, 115, 116, 114] : List UInt8) then (some (3, 3, true)) else (if a0.toList = ([99, 111, 97, 108, 101, 115, 99, 101] : List UInt8) then (some (1, 16, true)) else (if a0.toList = ([108, 101, 97, 115, 116] : List UInt8) then (some (1, 16, true)) else (if a0.toList = ([103, 114, 101, 97, 116, 101, 115, 116] : List UInt8) then (some (1, 16, true)) else (some (0, 0, false))))))) = some (r1, r2, r3) := by rw [if_neg (show ¬ (false = true) by decide)] at H; exact H
     clear H;have H := H1;clear H1
     by_cases c7 : a0.toList = ([110, 117, 108, 108, 105, 102] : List UInt8)
     · rw [if_pos c7] at H
       have a4 : (a0.toList == ([110, 117, 108, 108, 105, 102] : List UInt8)) = true := beq_iff_eq.mpr c7;have a5 : (a0.toList != ([110, 117, 108, 108, 105, 102] : List UInt8)) = false := bne_eq_false_iff_eq.mpr c7;clear c7;simp only [Option.some.injEq, Prod.mk.injEq] at H;obtain ⟨rfl, rfl, rfl⟩ := H;go_wp2
       go_ret3
       exact ⟨by first | rfl | (simp; done) | (simp [*]; done), by repeat (first | exact qB.refl _ | apply qB.step)⟩
     · rw [if_neg c7] at H
       have a4 : (a0.toList == ([110, 117, 108, 108, 105, 102] : List UInt8)) = false := beq_eq_false_iff_ne.mpr c7;have a5 : (a0.toList != ([110, 117, 108, 108, 105, 102] : List UInt8)) = true := bne_iff_ne.mpr c7
       by_cases c8 : a0.toList = ([115, 117, 98, 115, 116, 114] : List UInt8)
       · rw [if_pos c8] at H
         have a6 : (a0.toList == ([115, 117, 98, 115, 116, 114] : List UInt8)) = true := beq_iff_eq.mpr c8;have a7 : (a0.toList != ([115, 117, 98, 115, 116, 114] : List UInt8)) = false := bne_eq_false_iff_eq.mpr c8;clear c8;simp only [Option.some.injEq, Prod.mk.injEq] at H;obtain ⟨rfl, rfl, rfl⟩ := H;go_wp2
         go_ret3
         exact ⟨by first | rfl | (simp; done) | (simp [*]; done), by repeat (first | exact qB.refl _ | apply qB.step)⟩
       · rw [if_neg c8] at H
         have a6 : (a0.toList == ([115, 117, 98, 115, 116, 114] : List UInt8)) = false := beq_eq_false_iff_ne.mpr c8;have a7 : (a0.toList != ([115, 117, 98, 115, 116, 114] : List UInt8)) = true := bne_iff_ne.mpr c8
         by_cases c9 : a0.toList = ([99, 111, 97, 108, 101, 115, 99, 101] : List UInt8)
         · rw [if_pos c9] at H
           have a8 : (a0.toList == ([99, 111, 97, 108, 101, 115, 99, 101] : List UInt8)) = true := beq_iff_eq.mpr c9;have a9 : (a0.toList != ([99, 111, 97, 108, 101, 115, 99, 101] : List UInt8)) = false := bne_eq_false_iff_eq.mpr c9;clear c9;simp only [Option.some.injEq, Prod.mk.injEq] at H;obtain ⟨rfl, rfl, rfl⟩ := H;go_wp2
           go_ret3
           exact ⟨by first | rfl | (simp; done) | (simp [*]; done), by repeat (first | exact qB.refl _ | apply qB.step)⟩
         · rw [if_neg c9] at H
           have a8 : (a0.toList == ([99, 111, 97, 108, 101, 115, 99, 101] : List UInt8)) = false := beq_eq_false_iff_ne.mpr c9;have a9 : (a0.toList != ([99, 111, 97, 108, 101, 115, 99, 101] : List UInt8)) = true := bne_iff_ne.mpr c9
           by_cases ac : a0.toList = ([108, 101, 97, 115, 116] : List UInt8)
           · rw [if_pos ac] at H
             have az : (a0.toList == ([108, 101, 97, 115, 116] : List UInt8)) = true := beq_iff_eq.mpr ac;have a1 : (a0.toList != ([108, 101, 97, 115, 116] : List UInt8)) = false := bne_eq_false_iff_eq.mpr ac;clear ac;simp only [Option.some.injEq, Prod.mk.injEq] at H;obtain ⟨rfl, rfl, rfl⟩ := H;go_wp2
             go_ret3
             exact ⟨by first | rfl | (simp; done) | (simp [*]; done), by repeat (first | exact qB.refl _ | apply qB.step)⟩
           · rw [if_neg ac] at H
             have az : (a0.toList == ([108, 101, 97, 115, 116] : List UInt8)) = false := beq_eq_false_iff_ne.mpr ac;have a1 : (a0.toList != ([108, 101, 97, 115, 116] : List UInt8)) = true := bne_iff_ne.mpr ac
             by_cases ae : a0.toList = ([103, 114, 101, 97, 116, 101, 115, 116] : List UInt8)
             · rw [if_pos ae] at H
               have a2 : (a0.toList == ([103, 114, 101, 97, 116, 101, 115, 116] : List UInt8)) = true := beq_iff_eq.mpr ae;have a3 : (a0.toList != ([103, 114, 101, 97, 116, 101, 115, 116] : List UInt8)) = false := bne_eq_false_iff_eq.mpr ae;clear ae;simp only [Option.some.injEq, Prod.mk.injEq] at H;obtain ⟨rfl, rfl, rfl⟩ := H;go_wp2
               go_ret3
               exact ⟨by first | rfl | (simp; done) | (simp [*]; done), by repeat (first | exact qB.refl _ | apply qB.step)⟩
             · rw [if_neg ae] at H
               have a2 : (a0.toList == ([103, 114, 101, 97, 116, 101, 115, 116] : List UInt8)) = false := beq_eq_false_iff_ne.mpr ae;have a3 : (a0.toList != ([103, 114, 101, 97, 116, 101, 115, 116] : List UInt8)) = true := bne_iff_ne.mpr ae;simp only [Option.some.injEq, Prod.mk.injEq] at H;obtain ⟨rfl, rfl, rfl⟩ := H;go_wp2
               go_ret3
               exact ⟨by first | rfl | (simp; done) | (simp [*]; done), by repeat (first | exact qB.refl _ | apply qB.step)⟩
abbrev str (l : List UInt8) : ByteArray := ⟨l.toArray⟩
theorem str_data (l : List UInt8) : (str l).data.toList = l := rfl
theorem zh (l : List UInt8) : (str l).size = l.length := by show l.toArray.size = _; simp
theorem str_of (s : ByteArray) : str s.data.toList = s := by cases s; simp [str]
theorem str_eq {a b : ByteArray} (h : a = b) : Ending.returned (.string a) = Ending.returned (.string b) := by rw [h]
theorem app_str (a b : List UInt8) : (⟨a.toArray⟩ : ByteArray) ++ (⟨b.toArray⟩ : ByteArray) = ⟨(a ++ b).toArray⟩ := by
 apply ByteArray.ext
 simp
def BY (W : World) (b : Nat) (l : List UInt8) : Prop := ∀ (j : Nat) (h : j < l.length), W.cell? ⟨b, j, none⟩ = some (.int .u8 (l[j].toNat : Int)) ∧ W.frozen? ⟨b, j, none⟩ = false
theorem BY.set {W : World} {b : Nat} {l : List UInt8} (h : BY W b l) (i : Nat) (hi : i < l.length) (x : UInt8) : BY (W.setCell ⟨b, i, none⟩ (.int .u8 (x.toNat : Int))) b (l.set i x) := by
 intro j hj;rw [List.length_set] at hj;obtain ⟨h1, h2⟩ := h j hj;refine ⟨?_, by rw [World.frozen?_setCell]; exact h2⟩
 by_cases e : i = j
 · subst e
   rw [List.getElem_set_self]
   exact World.cell?_setCell_same _ _ _ (h i hi).1
 · rw [List.getElem_set_ne e]
   exact (World.cell?_setCell_other _ _ _ _ (by intro e2; injection e2 with _ e2 _; exact e e2)).trans h1
theorem BY.new (W : World) (s : ByteArray) : BY (Lib.bytesWorld W 5 s) W.heap.size s.data.toList := by
 intro j hj
 have hj' : j < s.size := by rw [Array.length_toList] at hj; exact hj
 refine ⟨?_, ?_⟩
 · rw [Lib.bytesWorld_cell W 5 s j hj']
   rw [List.getD_eq_getElem?_getD, List.getElem?_eq_getElem hj]
   rfl
 · have hb := Lib.bytesWorld_at_new W 5 s
   have hsz : j < (Lib.bytesCells W 5 s).size := by
    have := Lib.bytesWorld_cell W 5 s j hj';rw [Lib.cell_of_heap hb] at this
    exact (Array.getElem?_eq_some_iff.1 this).1
   simp only [World.frozen?, hb, Bool.and_eq_false_iff, decide_eq_false_iff_not]
   left
   omega
theorem BY.str {W : World} {b : Nat} {l : List UInt8} (h : BY W b l) (cap : Nat) : (convert 47 9 (.slice (some ⟨b, 0, none⟩) l.length cap)).run Tryd.prog W = .ok (.string ⟨l.toArray⟩) W := by
 have hl : (l.map fun c => (c.toNat : Int)).length = l.length := by simp
 rw [run_convert_bytes_arg (w := W) 47 5 Tryd.underlying47 Tryd.underlying5 b 0 l.length cap (l.map fun c => (c.toNat : Int)) hl (fun i hi => by
  rw [Nat.zero_add, (h i hi).1]
  simp [List.getD_eq_getElem?_getD, hi]) 9 Tryd.underlying9]
 congr 2
 unfold strOfNums
 congr 2
 rw [List.map_map]
 conv => rhs; rw [← List.map_id l]
 apply List.map_congr_left
 intro c _
 simp
def tb (lo hi : UInt8) (d : Int) (c : UInt8) : UInt8 := if lo ≤ c ∧ c ≤ hi then UInt8.ofNat (((c.toNat : Int) + d) % 256).toNat else c
theorem tb_val (lo hi : UInt8) (d : Int) (c : UInt8) (hd : d = 32 ∨ d = -32) (h1 : lo.toNat ≤ c.toNat) (h2 : c.toNat ≤ hi.toNat) : wrap64 (wrap64 (c.toNat : Int) + d) % 256 = ((tb lo hi d c).toNat : Int) := by
 have hc := c.toNat_lt;have hh : lo ≤ c ∧ c ≤ hi := ⟨UInt8.le_iff_toNat_le.2 h1, UInt8.le_iff_toNat_le.2 h2⟩;unfold tb;rw [if_pos hh, UInt8.toNat_ofNat'];unfold wrap64
 rcases hd with rfl | rfl <;> omega
theorem tb_out (lo hi : UInt8) (d : Int) (c : UInt8) (h : ¬ (lo.toNat ≤ c.toNat ∧ c.toNat ≤ hi.toNat)) : tb lo hi d c = c := by
 unfold tb;rw [if_neg]
 rintro ⟨h1, h2⟩
 exact h ⟨UInt8.le_iff_toNat_le.1 h1, UInt8.le_iff_toNat_le.1 h2⟩
theorem tb_up (c : UInt8) (h1 : 97 ≤ (c.toNat : Int)) (h2 : (c.toNat : Int) ≤ 122) : (c.toNat : Int) - 32 = ((tb 97 122 (-32) c).toNat : Int) := by
 have h := tb_val 97 122 (-32) c (Or.inr rfl) (by show 97 ≤ c.toNat; omega) (by show c.toNat ≤ 122; omega);unfold wrap64 at h
 omega
def upL (l : List UInt8) : List UInt8 := l.map (tb 97 122 (-32))
def half (f : UInt8 → UInt8) (l : List UInt8) (k : Nat) : List UInt8 := (l.take k).map f ++ l.drop k
theorem xR (f : UInt8 → UInt8) (l : List UInt8) (k : Nat) : (half f l k).length = l.length := by simp only [half, List.length_append, List.length_map, List.length_take, List.length_drop]; omega
theorem half_at (f : UInt8 → UInt8) (l : List UInt8) (k : Nat) (h : k < l.length) : (half f l k)[k]'(by rw [xR]; exact h) = l[k] := by
 simp only [half];rw [List.getElem_append_right (by simp only [List.length_map, List.length_take]; omega)];simp only [List.length_map, List.length_take, List.getElem_drop]
 congr 1
 omega
theorem half_set (f : UInt8 → UInt8) (l : List UInt8) (k : Nat) (h : k < l.length) : (half f l k).set k (f l[k]) = half f l (k + 1) := by
 simp only [half];rw [List.set_append_right _ _ (by simp only [List.length_map, List.length_take]; omega)]
 have e : k - ((l.take k).map f).length = 0 := by simp only [List.length_map, List.length_take]; omega
 rw [e, List.drop_eq_getElem_cons h, List.set_cons_zero, List.take_succ_eq_append_getElem h, List.map_append, List.append_assoc]
 rfl
theorem half_keep (f : UInt8 → UInt8) (l : List UInt8) (k : Nat) (h : k < l.length) (hf : f l[k] = l[k]) : half f l (k + 1) = half f l k := by
 rw [← half_set f l k h, hf];have := half_at f l k h;rw [← this]
 simp
theorem half_zero (f : UInt8 → UInt8) (l : List UInt8) : half f l 0 = l := by simp [half]
theorem half_all (f : UInt8 → UInt8) (l : List UInt8) : half f l l.length = l.map f := by simp [half]
set_option maxHeartbeats 4000000 in
set_option maxRecDepth 100000 in
theorem turned_calls (s : ByteArray) (lo hi : UInt8) (d : Int) (w : World) (hs : s.size ≤ 1000000000) (hd : d = 32 ∨ d = -32) :
 Calls Tryd.prog 69 #[.string s, .int .u8 (lo.toNat : Int), .int .u8 (hi.toNat : Int), .int .i64 d] w fun e w' => e = .returned (.string (str (s.data.toList.map (tb lo hi d)))) ∧ Below w.heap.size w w' := by
 have kb := fun W => print_bytes (P := Tryd.prog) 9 47 5 Tryd.underlying9 Tryd.underlying47 Tryd.underlying5 s W
 have hsz : s.data.toList.length = s.size := by rw [Array.length_toList]; rfl
 have HN := Aside0.mk (BY.new w s);have HB := Aside0.mk (bytes_below (Below.refl w.heap.size w) (Nat.le_refl _) 5 s);have HS := Aside0.mk hsz;clear hsz
 go_enter Tryd.func69, Tryd.ntmps69
 go_wp2
 go_loopw [10, 11, 16] (fun ae af aa wr => ∃ k : Nat, k ≤ s.size ∧ aa = .int .i64 (k : Int) ∧ Aside0 (BY wr w.heap.size (half (tb lo hi d) s.data.toList k)) ∧ Aside0 (Below w.heap.size w wr)) (fun _ _ aa _ => s.size - (intOf aa).toNat)
 case atStart => exact ⟨0, Nat.zero_le _, rfl, ⟨by rw [half_zero]; exact HN.out⟩, HB⟩
 case round =>
  clear HN HB;obtain ⟨k, hk, rfl, HY, HB⟩ := hrel
  by_cases hlt : k < s.size
  · have d1 : decide ((k : Int) < (s.size : Int)) = true := decide_eq_true (by omega)
    have d9 : (k : Int) < (s.size : Int) := by omega
    have hkl : k < s.data.toList.length := by rw [HS.out]; exact hlt
    obtain ⟨g0, f0⟩ := HY.out k (by rw [xR]; exact hkl);rw [half_at _ _ _ hkl] at g0;have HT := Aside0.mk (half_set (tb lo hi d) s.data.toList k hkl);have HK := Aside0.mk (half_keep (tb lo hi d) s.data.toList k hkl);have HL := Aside0.mk (by rw [xR]; exact hkl : k < (half (tb lo hi d) s.data.toList k).length);generalize s.data.toList[k]'hkl = c at *;clear hkl;go_wp2
    all_goals go_roundw
    case rel =>
     have e := tb_val lo hi d c hd (by assumption) (by assumption);refine ⟨k + 1, by omega, by go_num, ⟨?_⟩, ⟨qf HB.out (Nat.le_refl _)⟩⟩;rw [e, ← HT.out]
     exact HY.out.set k HL.out _
    case measure => simp [intOf]; omega
    case rel => exact ⟨k + 1, by omega, by go_num, ⟨by rw [HK.out (tb_out lo hi d c (by omega))]; exact HY.out⟩, HB⟩
    case measure => simp [intOf]; omega
    case rel => exact ⟨k + 1, by omega, by go_num, ⟨by rw [HK.out (tb_out lo hi d c (by omega))]; exact HY.out⟩, HB⟩
    case measure => simp [intOf]; omega
  · have d1 : decide ((k : Int) < (s.size : Int)) = false := decide_eq_false (by omega)
    obtain rfl : k = s.size := by omega
    have hcv := fun cap => BY.str HY.out cap
    rw [xR, HS.out] at hcv;have HF : Aside0 (half (tb lo hi d) s.data.toList s.size = s.data.toList.map (tb lo hi d)) := ⟨by rw [← HS.out, half_all]⟩;rw [HF.out] at hcv;go_wp2
    go_ret
    exact ⟨rfl, HB.out⟩
set_option maxHeartbeats 4000000 in
set_option maxRecDepth 100000 in
theorem upper_calls (s : ByteArray) (w : World) (hs : s.size ≤ 1000000000) :
 Calls Tryd.prog 36 #[.string s] w fun e w' => e = .returned (.string (str (upL s.data.toList))) ∧ Below w.heap.size w w' := by
 have kb := fun W => print_bytes (P := Tryd.prog) 9 47 5 Tryd.underlying9 Tryd.underlying47 Tryd.underlying5 s W
 have hsz : s.data.toList.length = s.size := by rw [Array.length_toList]; rfl
 have HN := Aside0.mk (BY.new w s);have HB := Aside0.mk (bytes_below (Below.refl w.heap.size w) (Nat.le_refl _) 5 s);have HS := Aside0.mk hsz;clear hsz;unfold upL
 go_enter Tryd.func36, Tryd.ntmps36
 go_wp2
 go_loopw [4] (fun v4 wr => ∃ k : Nat, k ≤ s.size ∧ v4 = .int .i64 (k : Int) ∧ Aside0 (BY wr w.heap.size (half (tb 97 122 (-32)) s.data.toList k)) ∧ Aside0 (Below w.heap.size w wr)) (fun v4 _ => s.size - (intOf v4).toNat)
 case atStart => exact ⟨0, Nat.zero_le _, rfl, ⟨by rw [half_zero]; exact HN.out⟩, HB⟩
 case round =>
  clear HN HB;obtain ⟨k, hk, rfl, HY, HB⟩ := hrel
  by_cases hlt : k < s.size
  · have d1 : decide ((k : Int) < (s.size : Int)) = true := decide_eq_true (by omega)
    have d9 : (k : Int) < (s.size : Int) := by omega
    have hkl : k < s.data.toList.length := by rw [HS.out]; exact hlt
    obtain ⟨g0, f0⟩ := HY.out k (by rw [xR]; exact hkl);rw [half_at _ _ _ hkl] at g0;have HT := Aside0.mk (half_set (tb 97 122 (-32)) s.data.toList k hkl);have HK := Aside0.mk (half_keep (tb 97 122 (-32)) s.data.toList k hkl);have HL := Aside0.mk (by rw [xR]; exact hkl : k < (half (tb 97 122 (-32)) s.data.toList k).length);generalize s.data.toList[k]'hkl = c at *;clear hkl;go_wp2
    all_goals go_roundw
    case rel =>
     have e := tb_up c (by assumption) (by assumption);refine ⟨k + 1, by omega, by go_num, ⟨?_⟩, ⟨qf HB.out (Nat.le_refl _)⟩⟩;rw [e, ← HT.out]
     exact HY.out.set k HL.out _
    case measure => simp [intOf]; omega
    case rel => exact ⟨k + 1, by omega, by go_num, ⟨by rw [HK.out (tb_out 97 122 (-32) c (by show ¬ (97 ≤ c.toNat ∧ c.toNat ≤ 122); omega))]; exact HY.out⟩, HB⟩
    case measure => simp [intOf]; omega
    case rel => exact ⟨k + 1, by omega, by go_num, ⟨by rw [HK.out (tb_out 97 122 (-32) c (by show ¬ (97 ≤ c.toNat ∧ c.toNat ≤ 122); omega))]; exact HY.out⟩, HB⟩
    case measure => simp [intOf]; omega
  · have d1 : decide ((k : Int) < (s.size : Int)) = false := decide_eq_false (by omega)
    obtain rfl : k = s.size := by omega
    have hcv := fun cap => BY.str HY.out cap
    rw [xR, HS.out] at hcv;have HF : Aside0 (half (tb 97 122 (-32)) s.data.toList s.size = s.data.toList.map (tb 97 122 (-32))) := ⟨by rw [← HS.out, half_all]⟩;rw [HF.out] at hcv;go_wp2
    go_ret
    exact ⟨rfl, HB.out⟩
def zi.f (s : ByteArray) : Option ByteArray := if s.size ≤ 1000000000 then some (str (upL s.data.toList)) else none
theorem zi.calls (s : ByteArray) (r : ByteArray) (w : World) (h : zi.f s = some r) :
 Calls Tryd.prog 36 #[.string s] w fun e w' => e = .returned (.string r) ∧ Below w.heap.size w w' := by
 unfold zi.f at h
 by_cases hs : s.size ≤ 1000000000
 · rw [if_pos hs] at h
   injection h with h
   subst h
   exact upper_calls s w hs
 · rw [if_neg hs] at h
   cases h
abbrev kwS : ByteArray := ⟨#[32, 65, 78, 68, 32, 65, 83, 32, 65, 83, 67, 32, 66, 69, 71, 73, 78, 32, 66, 69, 84, 87, 69, 69, 78, 32, 66, 79, 79, 76, 32, 66, 89, 32, 67, 65, 83, 69, 32, 67, 72, 69, 67, 75, 32, 67, 72, 69, 67, 75, 80, 79, 73, 78, 84, 32, 67, 79, 77, 77, 73, 84, 32, 67, 79, 77, 77, 73, 84, 84, 69, 68, 32, 67, 79, 85, 78, 84, 32, 67, 82, 65, 83, 72, 32, 67, 82, 69, 65, 84, 69, 32, 67, 85, 84, 32, 68, 69, 76, 69, 84, 69, 32, 68, 69, 83, 67, 32, 68, 82, 65, 73, 78, 32, 68, 82, 79, 80, 32, 69, 76, 83, 69, 32, 69, 78, 68, 32, 70, 65, 76, 83, 69, 32, 70, 76, 85, 83, 72, 32, 70, 82, 79, 77, 32, 73, 78, 32, 73, 78, 83, 69, 82, 84, 32, 73, 78, 84, 32, 73, 78, 84, 79, 32, 73, 83, 32, 75, 69, 89, 32, 76, 73, 75, 69, 32, 76, 73, 77, 73, 84, 32, 77, 65, 88, 32, 77, 69, 82, 71, 69, 32, 77, 73, 78, 32, 78, 79, 84, 32, 78, 85, 76, 76, 32, 79, 82, 32, 79, 82, 68, 69, 82, 32, 80, 76, 65, 89, 32, 80, 82, 73, 77, 65, 82, 89, 32, 82, 69, 65, 68, 32, 82, 69, 80, 69, 65, 84, 65, 66, 76, 69, 32, 82, 69, 83, 84, 65, 82, 84, 32, 82, 79, 76, 76, 66, 65, 67, 75, 32, 83, 69, 76, 69, 67, 84, 32, 83, 69, 82, 73, 65, 76, 73, 90, 65, 66, 76, 69, 32, 83, 69, 84, 32, 83, 78, 65, 80, 83, 72, 79, 84, 32, 83, 85, 77, 32, 83, 89, 78, 67, 32, 84, 65, 66, 76, 69, 32, 84, 69, 88, 84, 32, 84, 72, 69, 78, 32, 84, 73, 67, 75, 32, 84, 82, 85, 69, 32, 85, 80, 68, 65, 84, 69, 32, 86, 65, 76, 85, 69, 83, 32, 87, 72, 69, 78, 32, 87, 72, 69, 82, 69, 32]⟩
def kwL : List UInt8 := kwS.data.toList
theorem kwS_size : kwS.size = 353 := by decide +kernel
theorem kwL_len : kwL.length = 353 := by unfold kwL; rw [Array.length_toList]; exact kwS_size
theorem kw_cut (k n : Nat) (h : k + n ≤ 353) : ∃ Y : ByteArray, (∀ W : World, (Instr.slice 9 (.string kwS) (some (.int .i64 (k : Int))) (some (.int .i64 ((k : Int) + (n : Int)))) none).run Tryd.prog W = .ok (.string Y) W) ∧ Y.toList = (kwL.drop k).take n := by
 refine ⟨kwS.extract k (k + n), ?_, ?_⟩
 · intro W
   rw [run_slice_string_if (P := Tryd.prog) (w := W) 9 kwS .i64 .i64 (k : Int) ((k : Int) + (n : Int)) Tryd.underlying9];rw [if_pos ⟨by omega, by rw [kwS_size]; omega⟩, if_pos ⟨by omega, by omega⟩]
   rfl
 · rw [ByteArray.toList_eq]
   rw [Lib.extract_data];unfold kwL
   congr 1
   omega
def kwB (l : List UInt8) : Bool := Lib.contains kwL (32 :: (l ++ [32]))
theorem occ_sub (s sub : List UInt8) (i : Nat) (h : i + sub.length ≤ s.length) : Lib.occAt s sub i = ((s.drop i).take sub.length == sub) := by
 unfold Lib.occAt;rw [Bool.eq_iff_iff, List.isPrefixOf_iff_prefix, List.prefix_iff_eq_take, beq_iff_eq]
 exact eq_comm
theorem occ_far (s sub : List UInt8) (i : Nat) (h0 : 0 < sub.length) (h : s.length < i + sub.length) : Lib.occAt s sub i = false := by
 unfold Lib.occAt;rw [Bool.eq_false_iff];intro hp;have := (List.isPrefixOf_iff_prefix.1 hp).length_le;rw [List.length_drop] at this
 omega
theorem kw_yes (l : List UInt8) (i : Nat) (hi : i + (l.length + 2) ≤ 353) (h : Lib.occAt kwL (32 :: (l ++ [32])) i = true) : kwB l = true := by
 unfold kwB Lib.contains;rw [decide_eq_true_eq]
 rcases Lib.index_spec kwL (32 :: (l ++ [32])) with ⟨h1, h2⟩ | ⟨j, h1, _⟩
 · have := h2 i (by rw [kwL_len]; omega)
   rw [h] at this
   cases this
 · omega
theorem kw_no (l : List UInt8) (k : Nat) (hk : 353 < k + (l.length + 2)) (h : ∀ j, j < k → Lib.occAt kwL (32 :: (l ++ [32])) j = false) : kwB l = false := by
 unfold kwB Lib.contains;rw [decide_eq_false_iff_not];rw [Lib.index_none]
 · decide
 · intro j _
   by_cases hj : j < k
   · exact h j hj
   · apply occ_far _ _ _ (by simp)
     rw [kwL_len];simp only [List.length_cons, List.length_append, List.length_nil]
     omega
theorem sp_str (s : ByteArray) : (⟨#[32]⟩ : ByteArray) ++ s ++ (⟨#[32]⟩ : ByteArray) = str (32 :: (s.data.toList ++ [32])) := by
 apply ByteArray.ext
 simp
set_option maxHeartbeats 4000000 in
set_option maxRecDepth 100000 in
theorem keyword_calls (s : ByteArray) (w : World) (hs : s.size ≤ 1000000000) :
 Calls Tryd.prog 35 #[.string s] w fun e w' => e = .returned (.bool (kwB s.data.toList)) ∧ w = w' := by
 have hsz : s.data.toList.length = s.size := by rw [Array.length_toList]; rfl
 have HS := Aside0.mk hsz;have HX := Aside0.mk (sp_str s);clear hsz
 go_enter Tryd.func35, Tryd.ntmps35
 go_upto_region 2 with (fail)
 generalize hX : (⟨#[32]⟩ : ByteArray) ++ s ++ (⟨#[32]⟩ : ByteArray) = X at *
 have aa : X.data.toList = 32 :: (s.data.toList ++ [32]) := by rw [HX.out]
 have hxs : X.size = s.size + 2 := by
  have : X.data.toList.length = X.size := by rw [Array.length_toList]; rfl
  rw [← this, aa];simp only [List.length_cons, List.length_append, List.length_nil, HS.out]
 have ab := Aside0.mk aa;have HXS := Aside0.mk hxs
 have hxb : X.size ≤ 1000000002 := by omega
 clear HX aa hxs hX;go_wp2
 go_loop [4] (fun v4 => ∃ k : Nat, k ≤ 354 ∧ v4 = .int .i64 (k : Int) ∧ Aside0 (∀ j, j < k → Lib.occAt kwL (32 :: (s.data.toList ++ [32])) j = false)) (fun v4 => 400 - (intOf v4).toNat)
 case atStart => exact ⟨0, Nat.zero_le _, rfl, ⟨fun j hj => absurd hj (Nat.not_lt_zero j)⟩⟩
 case round =>
  obtain ⟨k, hk, rfl, HJ⟩ := hrel
  by_cases hlt : k + X.size ≤ 353
  · have d1 : decide ((k : Int) + (X.size : Int) ≤ 353) = true := decide_eq_true (by omega)
    obtain ⟨Y, hY, hYl⟩ : ∃ Y : ByteArray, (∀ W : World, (Instr.slice 9 (.string kwS) (some (.int .i64 (k : Int))) (some (.int .i64 ((k : Int) + (X.size : Int)))) none).run Tryd.prog W = .ok (.string Y) W) ∧ Y.toList = (kwL.drop k).take X.size := kw_cut k X.size hlt;have ho := occ_sub kwL (32 :: (s.data.toList ++ [32])) k (by rw [kwL_len]; have := HXS.out; have := HS.out; simp only [List.length_cons, List.length_append, List.length_nil]; omega)
    have ac : (32 :: (s.data.toList ++ [32])).length = X.size := by have := HXS.out; have := HS.out; simp only [List.length_cons, List.length_append, List.length_nil]; omega
    rw [ac, ← hYl, ← ab.out, ← ByteArray.toList_eq] at ho;have HOc := Aside0.mk ho;clear ho hYl ac;have ae := Aside0.mk (show X.toList = 32 :: (s.data.toList ++ [32]) from (ByteArray.toList_eq X).trans ab.out)
    by_cases hc : Y.toList = X.toList
    · have b1 : (Y.toList == X.toList) = true := beq_iff_eq.2 hc
      have HR : Aside0 (kwB s.data.toList = true) := ⟨kw_yes s.data.toList k (by have := HXS.out; have := HS.out; omega) (by rw [← ae.out]; exact HOc.out.trans b1)⟩;clear hc;go_wp2
      go_ret
      exact ⟨by rw [HR.out]; rfl, rfl⟩
    · have b1 : (Y.toList == X.toList) = false := by rw [beq_eq_false_iff_ne]; exact hc
      have HR : Aside0 (Lib.occAt kwL (32 :: (s.data.toList ++ [32])) k = false) := ⟨by rw [← ae.out]; exact HOc.out.trans b1⟩;clear hc;go_wp2
      go_round
      case rel =>
       refine ⟨k + 1, by omega, by go_num, ⟨fun j hj => ?_⟩⟩
       by_cases e : j = k
       · rw [e]; exact HR.out
       · exact HJ.out j (by omega)
      case measure => simp [intOf]; omega
  · have d1 : decide ((k : Int) + (X.size : Int) ≤ 353) = false := decide_eq_false (by omega)
    go_wp2
    go_ret
    exact ⟨by rw [kw_no s.data.toList k (by have := HXS.out; rw [HS.out]; omega) HJ.out]; rfl, rfl⟩
def ze.f (s : ByteArray) : Option Bool := if s.size ≤ 1000000000 then some (kwB s.data.toList) else none
theorem ze.calls (s : ByteArray) (r : Bool) (w : World) (h : ze.f s = some r) :
 Calls Tryd.prog 35 #[.string s] w fun e w' => e = .returned (.bool r) ∧ Below w.heap.size w w' := by
 unfold ze.f at h
 by_cases hs : s.size ≤ 1000000000
 · rw [if_pos hs] at h
   injection h with h
   subst h
   exact (keyword_calls s w hs).mono (by rintro e w' ⟨rfl, rfl⟩; exact ⟨rfl, Below.refl _ _⟩)
 · rw [if_neg hs] at h
   cases h
def zT.f (a0 : Int) : Option (Bool) := if 48 ≤ a0 then (some (decide (a0 ≤ 57))) else (some false)
set_option maxHeartbeats 8000000 in
set_option maxRecDepth 100000 in
theorem zT.calls (a0 : Int) (r : Bool) (w : World) (h : zT.f a0 = some r) :
 Calls Tryd.prog 63 #[.int .u8 a0] w fun e w' => e = .returned (.bool r) ∧ qB w w' := by
 have H : (if 48 ≤ a0 then (some (decide (a0 ≤ 57))) else (some false)) = some r := h;clear h
 by_cases c2 : 48 ≤ a0
 · rw [if_pos c2] at H
   have ab : decide (48 ≤ a0) = true := decide_eq_true c2;clear c2;obtain rfl := Option.some.inj H
   go_enter Tryd.func63, Tryd.ntmps63
   go_wp2
   go_ret
   exact ⟨by first | rfl | (simp; done) | (simp [*]; done), by repeat (first | exact qB.refl _ | apply qB.step)⟩
 · rw [if_neg c2] at H
   have ab : decide (48 ≤ a0) = false := decide_eq_false c2;clear c2;obtain rfl := Option.some.inj H
   go_enter Tryd.func63, Tryd.ntmps63
   go_wp2
   go_ret
   exact ⟨by first | rfl | (simp; done) | (simp [*]; done), by repeat (first | exact qB.refl _ | apply qB.step)⟩
end Go.Proofs.YtfmgbgkcmmpcfaaDoor.PTx

