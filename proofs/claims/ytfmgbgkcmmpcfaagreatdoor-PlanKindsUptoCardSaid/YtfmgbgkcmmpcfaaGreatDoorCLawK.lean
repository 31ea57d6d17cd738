import Derived.Test.YtfmgbgkcmmpcfaaGreatDoorCPTkx0
import Derived.Outline
import Derived.Deep.DeepMust
import Derived.Deep.DeepFit
import Derived.RegionDies
import Derived.Maps.AppendAt
import Derived.Deep.QuietTactic
import Derived.BigQuiet
import Derived.Test.YtfmgbgkcmmpcfaaGreatDoorCShelf
import Derived.Test.YtfmgbgkcmmpcfaaGreatDoorCPTkx21
import Derived.Deep.RegionLaw
import Derived.Lib.Zigzag
import Derived.Lib.SplitLaws
import Derived.Laws.EntriesVeiled
import Derived.Laws.Rows
import Derived.Deep.RegionWith
import Derived.Deep.RegionHeld3
import Derived.Deep.CutBlock
import Derived.Stop.Asserts
import Derived.LaidEql
import Derived.Recover
import Derived.Defers
import Derived.StillTailTactics
import Derived.IntWalk
import Derived.Laws.DeepStrings4
import Derived.Lib.ItoaLen
import Derived.Lib.OthersKept
namespace Go.Proofs.YtfmgbgkcmmpcfaaGreatDoor.PTk
open Go.RowKit Go.Proofs.YtfmgbgkcmmpcfaaGreatDoorW.PrintWords Go.Proofs.YtfmgbgkcmmpcfaaGreatDoorW.PrintLast Go.Proofs.YtfmgbgkcmmpcfaaGreatDoorW.PrintMore
attribute [local go_sem] zp zC
set_option linter.unusedVariables false
set_option linter.unusedSimpArgs false
theorem find_ev (cols : List S93) (s : ByteArray) (hn : cols.length ≤ 2000000) : ∀ (m i k : Nat), i + m = cols.length → m < k → qT.l0 k cols s (i : Int) = some (zj s i (cols.drop i))
 | 0, i, k, h, hk => by
  obtain ⟨k, rfl⟩ : ∃ j, k = j + 1 := ⟨k - 1, by omega⟩
  rw [qT.l0, if_neg (by omega), List.drop_of_length_le (by omega)]; rfl
 | m + 1, i, k, h, hk => by
  obtain ⟨k, rfl⟩ : ∃ j, k = j + 1 := ⟨k - 1, by omega⟩
  have hi : i < cols.length := by omega
  have hw : wrap64 ((i : Int) + 1) = ((i + 1 : Nat) : Int) := by rw [wrapK (by omega) (by omega)]; omega
  rw [qT.l0, if_pos (by omega), if_pos (by omega), rdC_lt cols i hi, findFrom_at s cols i hi, hw]
  by_cases h1 : cols[i].f0.toList = s.toList
  · rw [if_pos h1, if_pos h1]
  · rw [if_neg h1, if_neg h1]
    exact find_ev cols s hn m (i + 1) k (by omega) (by omega)
theorem typed_ev (t : Int) : zn.f t = some (typeB t) := by
 unfold zn.f typeB
 by_cases h1 : t = 1
 · rw [if_pos h1, h1]; rfl
 rw [if_neg h1]
 by_cases h2 : t = 2
 · rw [if_pos h2, h2]; rfl
 rw [if_neg h2, show (t == 1) = false by simpa using h1, show (t == 2) = false by simpa using h2]; rfl
theorem leaf_ev (op f1 f2 : Int) (s : ByteArray) (cols : List S93) (hn : cols.length ≤ 2000000) (k : Nat) (hk : cols.length < k) : zK.f k op f1 f2 s cols = some (xI op s cols) := by
 unfold zK.f xI
 by_cases a1 : op = 1
 · rw [if_pos a1, if_pos a1]
 rw [if_neg a1, if_neg a1]
 by_cases a2 : op = 2
 · rw [if_pos a2, if_pos a2]
 rw [if_neg a2, if_neg a2]
 by_cases a3 : op = 3
 · rw [if_pos a3, if_pos a3]
 rw [if_neg a3, if_neg a3]
 by_cases a4 : op = 4
 · rw [if_pos a4, if_pos a4]
 rw [if_neg a4, if_neg a4]
 by_cases a5 : op = 5
 · rw [if_pos a5, if_pos a5]
 rw [if_neg a5, if_neg a5];have hf : qT.f k cols s = some (zj s 0 cols) := find_ev cols s hn cols.length 0 k (by omega) hk;rw [hf, Option.bind_some]
 by_cases h0 : zj s 0 cols < 0
 · rw [if_pos h0, if_pos h0]
 rw [if_neg h0, if_neg h0, if_pos (by omega)]
 rcases findFrom_lt s cols 0 with h | ⟨_, h⟩
 · omega
 rw [if_pos (by omega), typed_ev, Option.bind_some]
 split <;> rfl
theorem leaf_nn {op : Int} {s : ByteArray} {cols : List S93} (h : (xI op s cols).2 = 0) : 0 ≤ (xI op s cols).1 := by
 unfold xI at h ⊢
 by_cases a1 : op = 1
 · rw [if_pos a1]; decide
 rw [if_neg a1] at h ⊢
 by_cases a2 : op = 2
 · rw [if_pos a2]; decide
 rw [if_neg a2] at h ⊢
 by_cases a3 : op = 3
 · rw [if_pos a3]; decide
 rw [if_neg a3] at h ⊢
 by_cases a4 : op = 4
 · rw [if_pos a4]; decide
 rw [if_neg a4] at h ⊢
 by_cases a5 : op = 5
 · rw [if_pos a5]; decide
 rw [if_neg a5] at h ⊢
 by_cases a6 : zj s 0 cols < 0
 · rw [if_pos a6]; decide
 rw [if_neg a6] at h ⊢
 by_cases a7 : typeB (zr cols (zj s 0 cols)).f1 = true
 · rw [if_pos a7]
   unfold typeB at a7;simp only [Bool.or_eq_true, beq_iff_eq] at a7
   dsimp only
   omega
 · rw [if_neg a7]; decide
theorem vk {want give : Int} {ks : List Int} {r : Int} (hg : 0 ≤ give) (h : xu want give ks = some r) : 0 ≤ r := by
 unfold xu at h
 split at h
 · injection h with h; omega
 · cases h
theorem case_nn : ∀ (n : Nat) (ks acc : List Int) (r : Int), ks.length ≤ n → (∀ x ∈ ks, 0 ≤ x) → (∀ x ∈ acc, 0 ≤ x) → zF ks acc = some r → 0 ≤ r
 | n, [], acc, r, _, _, ha, h => oneK_nn acc 0 r (by omega) ha h
 | n, [x], acc, r, _, hk, ha, h => oneK_nn (acc ++ [x]) 0 r (by omega) (fun y hy => by
  rcases List.mem_append.1 hy with h | h
  · exact ha y h
  · exact hk y h) h
 | 0, c :: t :: l, acc, r, hl, _, _, _ => by simp at hl
 | n + 1, c :: t :: l, acc, r, hl, hk, ha, h => by
  simp only [zF] at h
  split at h
  · exact case_nn n l (acc ++ [t]) r (by simp only [List.length_cons] at hl; omega) (fun y hy => hk y (by simp [hy])) (fun y hy => by
     rcases List.mem_append.1 hy with h | h
     · exact ha y h
     · rw [List.mem_singleton.1 h]; exact hk t (by simp)) h
  · cases h
theorem kindP_nn {op : Int} {s : ByteArray} {ks : List Int} {r : Int} (h0 : ∀ k ∈ ks, 0 ≤ k) (h : kindP op s ks = some r) : 0 ≤ r := by
 unfold kindP at h
 split at h
 · exact vk (by omega) h
 split at h
 · exact vk (by omega) h
 split at h
 · exact vk (by omega) h
 split at h
 · exact vk (by omega) h
 split at h
 · cases ho : oneK 0 ks with
   | none => rw [ho] at h; cases h
   | some k => rw [ho] at h; simp only [Option.map_some, Option.some.injEq] at h; omega
 split at h
 · exact case_nn ks.length ks [] r (Nat.le_refl _) h0 (fun x hx => by cases hx) h
 split at h
 · unfold callK at h
   split at h
   · exact vk (by omega) h
   split at h
   · exact vk (by omega) h
   split at h
   · exact vk (by omega) h
   split at h
   · exact vk (by omega) h
   split at h
   · split at h
     · exact vk (by omega) h
     · cases h
   · exact oneK_nn ks 0 r (by omega) h0 h
 · injection h with h; omega
def endT (R : Int × List Int) : Int × Int := if R.1 = 0 then (R.2.headD 0, 0) else (0, R.1)
theorem type_ev (l : List S86) (cols : List S93) (hn : l.length ≤ 1000000) (hc : cols.length ≤ 2000000) : ∀ (m i k : Nat) (st : List Int), i + m = l.length → okLen st.length (l.drop i) → (∀ x ∈ st, 0 ≤ x) → st.length ≤ i → m + cols.length + 1 < k → qD.l0 k l cols st (i : Int) = some (endT (runT cols st (l.drop i)))
 | 0, i, k, st, h, ho, h0, hs, hk => by
  obtain ⟨k, rfl⟩ : ∃ j, k = j + 1 := ⟨k - 1, by omega⟩;have hd : l.drop i = [] := List.drop_of_length_le (by omega);rw [hd] at ho ⊢;have h1 : st.length = 1 := ho;rw [qD.l0, if_neg (by omega), if_pos (by omega)]
  cases st with
  | nil => simp at h1
  | cons a st => rfl
 | m + 1, i, k, st, h, ho, h0, hs, hk => by
  obtain ⟨k, rfl⟩ : ∃ j, k = j + 1 := ⟨k - 1, by omega⟩
  have hi : i < l.length := by omega
  have hw : wrap64 ((i : Int) + 1) = ((i + 1 : Nat) : Int) := by rw [wrapK (by omega) (by omega)]; omega
  obtain ⟨g1, g2, g3, g4⟩ := okLen_at st.length l i hi ho;rw [qD.l0, if_pos (by omega), if_pos (by omega), runT_at cols st l i hi, hw, show qi l (i : Int) = l[i] by simp [qi, hi]];generalize l[i] = x at *;obtain ⟨op, f1, f2, f3⟩ := x
  dsimp only at g1 g2 g3 g4 ⊢
  obtain ⟨n, rfl⟩ : ∃ n : Nat, f1 = (n : Int) := ⟨f1.toNat, by omega⟩;rw [Int.toNat_natCast] at g3 g4;unfold stepT
  dsimp only
  rw [Int.toNat_natCast]
  by_cases af : n = 0
  · subst af
    have h6 : op ≤ 6 := by rcases g3 with h | h <;> omega
    have hP : vS op f3 cols (st.drop (st.length - 0)) = xI op f3 cols := by unfold vS; rw [if_pos h6]
    rw [hP, if_pos (show ((0 : Nat) : Int) = 0 from rfl), leaf_ev op _ f2 f3 cols hc k (by omega), Option.bind_some]
    by_cases he : (xI op f3 cols).2 = 0
    · rw [if_pos he, if_pos he, if_pos (by omega), Nat.sub_zero, List.take_length]
      have hl : (st ++ [(xI op f3 cols).1]).length = st.length + 1 := by simp
      refine type_ev l cols hn hc m (i + 1) k _ (by omega) (by rw [hl]; rw [Nat.sub_zero] at g4; exact g4) (fun y hy => ?_) (by rw [hl]; omega) (by omega)
      rcases List.mem_append.1 hy with h | h
      · exact h0 y h
      · rw [List.mem_singleton.1 h]; exact leaf_nn he
    · rw [if_neg he, if_neg he]
      unfold endT;rw [if_neg he]
  · have h7 : ¬ op ≤ 6 := by rcases g3 with h | h <;> omega
    obtain ⟨q, hq⟩ : ∃ q, q = st.length - n := ⟨_, rfl⟩
    have hwq : wrap64 ((st.length : Int) - (n : Int)) = (q : Int) := by rw [wrapK (by omega) (by omega)]; omega
    rw [if_neg (by omega), hwq, if_pos (by omega), if_pos (by omega), Int.toNat_natCast, ← hq];rw [← hq] at g4
    have hdl : (st.drop q).length = n := by rw [List.length_drop]; omega
    have ae : ∀ y ∈ st.drop q, 0 ≤ y := fun y hy => h0 y (List.mem_of_mem_drop hy)
    have hN : z8.f op (n : Int) f2 f3 (st.drop q) = some ((kindP op f3 (st.drop q)).getD (-1)) := by
     unfold z8.f
     exact if_pos ((nodeOK_iff _ _ _).2 ⟨by rw [hdl]; exact g3, by omega, ae⟩)
    rw [hN, Option.bind_some];unfold vS;rw [if_neg h7]
    cases ag : kindP op f3 (st.drop q) with
    | none => rfl
    | some r =>
     have hr := kindP_nn ae ag
     dsimp only
     rw [show (some r).getD (-1) = r from rfl, if_neg (by omega), Option.bind_some, if_pos rfl, if_pos (by rw [List.length_take]; omega)]
     have hl : (st.take q ++ [r]).length = q + 1 := by rw [List.length_append, List.length_take]; simp only [List.length_singleton]; omega
     refine type_ev l cols hn hc m (i + 1) k _ (by omega) (by rw [hl]; exact g4) (fun y hy => ?_) (by rw [hl]; omega) (by omega)
     rcases List.mem_append.1 hy with h | h
     · exact h0 y (List.mem_of_mem_take h)
     · rw [List.mem_singleton.1 h]; exact hr
theorem law_true (l : List S86) (cols : List S93) (ho : okIn l = true) (hc : cols.length ≤ 2000000) : zJ.f (l.length + cols.length + 2) l cols = some true := by
 have hP : zU.f l cols = some (if (zB l).2 = 0 then typeK l cols else (0, 159)) := by unfold zU.f; exact if_pos ⟨ho, by omega⟩
 have hE : ze.f l = some (⟨(zB l).1.toArray⟩, (zB l).2) := by unfold ze.f zz.f; exact if_pos ho
 have hn := ((okIn_iff l).1 ho).1
 have hR : qD.f (l.length + cols.length + 2) l cols = some (if (zB l).2 = 0 then typeK l cols else (0, 159)) := by
  unfold qD.f;rw [hE, Option.bind_some]
  by_cases h : (zB l).2 = 0
  · rw [if_pos h, if_pos h]
    have := type_ev l cols hn hc l.length 0 (l.length + cols.length + 2) [] (by omega) (printE_ok h) (fun x hx => by cases hx) (Nat.le_refl _) (by omega);rw [List.drop_zero] at this
    exact this
  · rw [if_neg h, if_neg h]
 unfold zJ.f;rw [hP, Option.bind_some, hR, Option.bind_some, if_pos rfl];unfold zG.f;rw [Option.bind_some]
 simp
def szL : List S86 → Nat
 | [] => 0
 | x :: r => x.f3.size + szL r
theorem wt_sz : ∀ l : List S86, (∀ x ∈ l, okNd x) → wtL l ≤ 2 * szL l + 91 * l.length
 | [], _ => by simp [wtL, szL]
 | x :: r, h => by
  have h1 := wt_sz r (fun y hy => h y (by simp [hy]));have h2 := h x (by simp);have h3 := Lib.itoa_length_le x.f2 h2.2.2.1 h2.2.2.2.1;simp only [wtL, szL, wt, List.length_cons]
  omega
theorem inv_small (l : List S86) (h1 : l.length ≤ 1000000) (h2 : szL l ≤ 1000000000) (h3 : ∀ x ∈ l, okNd x) : okIn l = true := by
 have h := wt_sz l h3
 exact (okIn_iff l).2 ⟨h1, by omega, h3⟩
end Go.Proofs.YtfmgbgkcmmpcfaaGreatDoor.PTk

